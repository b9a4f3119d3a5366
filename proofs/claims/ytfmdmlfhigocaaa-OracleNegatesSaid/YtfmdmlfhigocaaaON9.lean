/- A part of the proof (Vn). -/
import Derived.Test.YtfmdmlfhigocaaaON7
set_option linter.unusedSimpArgs false
set_option linter.unusedVariables false
set_option maxRecDepth 100000
set_option maxHeartbeats 80000000
namespace Go.VL
variable{i:Nat}{e':Nat->V}{e:Env}{s:List Obj}{P:Program}{K:V->List Obj->Prop}{o:Oper}{full:List Oper}{bn:Array Bool}
def OK (acc:List Nat) (es:List Edge):Nat :=
 es.foldl (λm e=>if Region.binds .any e then m ||| 2 ^ e.on ||| acc.getD e.on 0 else m) 0
def Fg:List Oper->List Nat->List Nat
 |[],acc=>acc
 |o::rest,acc=>Fg rest (acc++[OK acc o.after.toList])
def UI (ms:List Nat) (i j:Nat):Bool:=(ms.getD j 0).testBit i
def kZ (full:List Oper) (L:Nat->Prop):Prop:=∀j o,full[j]?=some o->L j->∀e∈o.after.toList,Region.binds .any e=true->L e.on
theorem vy {L:Nat->Prop}{acc:List Nat} (iE:∀j i,(acc.getD j 0).testBit i=true->L j->L i):∀(es:List Edge) (m:Nat),(∀e∈es,Region.binds .any e=true->L e.on)->(∀i,m.testBit i=true->L i) ->
  ∀i,(es.foldl (λm e=>if Region.binds .any e then m ||| 2 ^ e.on ||| acc.getD e.on 0 else m) m).testBit i=true->L i
 |[],m,_,hm,i,h=>hm i h
 |e::es,m,he,hm,i,h=>by
  simp only[List.foldl_cons]at h;refine vy iE es _ (λe' h'=>he e' (List.mem_cons_of_mem _ h')) (λi' h'=>?_) i h;split at h'
  ·rename_i hb;have hon:=he e (List.mem_cons_self ..) hb;rw[Nat.testBit_or,Nat.testBit_or,Nat.testBit_two_pow]at h';simp only[Bool.or_eq_true,decide_eq_true_eq]at h';rcases h' with (h'|h')|h'
   ·exact hm i' h'
   ·rw[<- h'];exact hon
   ·exact iE _ _ h' hon
  ·exact hm i' h'
theorem Bk {full:List Oper}{L:Nat->Prop} (hL:kZ full L):∀(l:List Oper) (acc:List Nat),(∀j,l[j]?=full[acc.length+j]?)->(∀j i,(acc.getD j 0).testBit i=true->L j->L i) ->
  ∀j i,UI (Fg l acc) i j=true->L j->L i
 |[],acc,_,iE,j,i,h,hj=>iE j i h hj
 |o::rest,acc,hl,iE,j,i,h,hj=>by
  simp only[Fg]at h;refine Bk hL rest _ (λk=>by have:=hl (k+1);simpa [agM,Nat.add_comm 1 k]using this) (λk i' hk Zd=>?_) j i h hj;by_cases az:k<acc.length
  ·rw[af9,af2 az,<- af9]at hk;exact iE k i' hk Zd
  ·by_cases heq:k=acc.length
   ·subst heq;rw[af9,af6 (af3 _)]at hk;simp only[ahi,agm,ag9]at hk;have ho:full[acc.length]?=some o:=by have:=hl 0;simpa using this.symm
    exact vy iE _ 0 (λe he hb=>hL _ o ho Zd e he hb) (by simp) i' hk
   ·rw[af9,agG (by simp;omega)]at hk;simp at hk
abbrev cx:=List (Nat×List Nat×List Nat)
def gP:cx->Nat->Option (List Nat×List Nat)
 |[],_=>none
 |(k,f)::l,i=>if k=i then some f else gP l i
def nq (fs:cx) (i:Nat):List Nat :=
 match gP fs i with
 |some (_,w)=>w
 |none=>[]
def Gr:cx->List Nat
 |[]=>[]
 |(_,_,w)::l=>w++Gr l
theorem I6:∀{fs:cx}{i id:Nat},id∈nq fs i->id∈Gr fs
 |[],i,id,h=>by simp [nq,gP]at h
 |(k,r,w)::l,i,id,h=>by
  unfold nq at h;simp only[gP]at h;simp only[Gr,List.mem_append];by_cases hk:k=i
  ·rw[be hk]at h;exact .inl h
  ·rw[ap hk]at h;exact .inr (I6 h)
def Pg (fs:cx) (i id:Nat):Prop :=
 match gP fs i with
 |some (r,_)=>id∈r
 |none=>id ∉ Gr fs
def tj (fs:cx) (i j:Nat):Bool :=
 match gP fs i,gP fs j with
 |some (r,w),some (r',w')=>w.all (λid=>!r'.contains id&&!w'.contains id)&&w'.all λid=>!r.contains id
 |_,_=>true
def Bw (full:List Oper) (ms:List Nat) (bars:List Nat) (fs:cx) (i j:Nat) (oi oj:Oper):Bool :=
 UI ms i j||(oi.apart full.toArray oj&&oj.apart full.toArray oi&&!bars.contains i&&!bars.contains j&&tj fs i j)
def Um (o:Oper):Bool:=(match o.op with|.select ..=>false|_=>true)&&!(o.dst == some 0)
def kq (full:List Oper) (bars:List Nat) (fs:cx):Bool :=
 let ms:=Fg full []
 full.zipIdx.all (λ(oi,i)=>Um oi&&oi.after.toList.all (λe=>!Region.binds .any e||decide (e.on<i))&&full.zipIdx.all λ(oj,j)=>!decide (i<j)||Bw full ms bars fs i j oi oj)
theorem sU {fs:cx}{j:Nat} (h:tj fs i j=true) {id:Nat} (hw:id∈nq fs i):¬Pg fs j id/\id ∉ nq fs j:=by
 have ha:=I6 hw;unfold tj at h;unfold nq at hw ⊢;unfold Pg;cases hi:gP fs i with
 |none=>rw[hi]at hw;cases hw
 |some x =>
  obtain⟨r,w⟩:=x;rw[hi]at hw h;simp only at hw;cases hj:gP fs j with
  |none=>exact⟨λh=>h ha,by simp⟩
  |some y =>
   obtain⟨r',w'⟩:=y;rw[hj]at h;simp only[agb,af8]at h;have:=h.1 id hw;simp only[agb,Bool.not_eq_true',List.contains_eq_mem,decide_eq_false_iff_not]at this;exact this
theorem z7 {fs:cx}{j:Nat} (h:tj fs i j=true):tj fs j i=true:=by
 unfold tj at *;cases hi:gP fs i with
 |none=>cases gP fs j <;> rfl
 |some x =>
  cases hj:gP fs j with
  |none=>rfl
  |some y =>
   obtain⟨r,w⟩:=x;obtain⟨r',w'⟩:=y;rw[hi,hj]at h;simp only[agb,af8,Bool.not_eq_true',List.contains_eq_mem,decide_eq_false_iff_not]at h ⊢;exact⟨λid cS=>⟨h.2 id cS,λhw=>(h.1 id hw).2 cS⟩,λid cS=>(h.1 id cS).1⟩
theorem B9{c:Call}{e:Nat->V} (h0:e 0=e' 0) (h:∀x∈c.operands,ev e x=ev e' x):gH P c e s K=gH P c e' s K:=by
 have jV:∀x∈c.args.toList,ev e x=ev e' x:=λx hx=>h x (by simp [Call.operands];exact .inr (by simpa using hx));have hm:c.args.toList.map (ev e)=c.args.toList.map (ev e'):=agC jV;unfold gH;rw[hm];cases hc:c.callee with
 |value f =>
  have hf:ev e f=ev e' f:=h f (by simp [Call.operands,hc]);cases f <;> simp only[hf,h0]
 |invoke r m=>rfl
 |builtin b =>
  cases b
  case len=>rcases hl:c.args.toList with _|⟨x,_|⟨y,l⟩⟩ <;> rcases ht:c.argTypes.toList with _|⟨t,_|⟨t',l'⟩⟩ <;> simp_all
  case cap=>rcases hl:c.args.toList with _|⟨x,_|⟨y,l⟩⟩ <;> rcases ht:c.argTypes.toList with _|⟨t,_|⟨t',l'⟩⟩ <;> simp_all
  case append=>rcases hl:c.args.toList with _|⟨x,_|⟨y,_|⟨z,l⟩⟩⟩ <;> rcases ht:c.argTypes.toList with _|⟨t,_|⟨t',_|⟨t'',l'⟩⟩⟩ <;> simp_all
  case copy=>rcases hl:c.args.toList with _|⟨x,_|⟨y,_|⟨z,l⟩⟩⟩ <;> rcases ht:c.argTypes.toList with _|⟨t,_|⟨t',_|⟨t'',l'⟩⟩⟩ <;> simp_all
  case clear=>rcases hl:c.args.toList with _|⟨x,_|⟨y,l⟩⟩ <;> rcases ht:c.argTypes.toList with _|⟨t,_|⟨t',l'⟩⟩ <;> simp_all
  case min=>rcases hl:c.args.toList with _|⟨x,l⟩ <;> rw[hl]at jV <;> simp only[agC λy hy=>jV y (List.mem_cons_of_mem _ hy),jV _ (List.mem_cons_self ..)]
  case max=>rcases hl:c.args.toList with _|⟨x,l⟩ <;> rw[hl]at jV <;> simp only[agC λy hy=>jV y (List.mem_cons_of_mem _ hy),jV _ (List.mem_cons_self ..)]
  all_goals rfl
theorem Kz{e:Nat->V} (h0:e 0=e' 0) (h:∀x∈o.op.operands,ev e x=ev e' x):cN P o e s K=cN P o e' s K:=by
 obtain⟨dst,op,ty,pos,after,guard⟩:=o;have TS:∀ps:Array (Nat×Operand),(∀x∈ps.map (·.2),ev e x=ev e' x)->(ps.toList.map λp=>(p.1,ev e p.2))=(ps.toList.map λp=>(p.1,ev e' p.2)):=λps hp =>
  agC λp hm=>by obtain⟨i,x⟩:=p;simp only[hp x (Array.mem_map.2 ⟨(i,x),by simpa using hm,rfl⟩)]
 cases op <;> simp only[Op.operands]at h <;> simp only[cN]
 case build t ps=>rw[TS ps λx hx=>h x (by simpa using hx)]
 case buildSlice t n ps=>rw[TS ps λx hx=>h x (by simpa using hx)]
 case makeFunc fn first captured =>
  rw[agC (l:=first.toList) λx hx=>h x (by simp;exact .inl (by simpa using hx)),agC (l:=captured.toList) λx hx=>h x (by simp;exact .inr (by simpa using hx))]
 case call c=>exact B9 h0 h
 case slice t x lo hi mx=>cases lo <;> cases hi <;> cases mx <;> simp_all
 all_goals (first|rfl|(simp_all;done))
def oc (full:List Oper) (o:Oper) (e:Env):Env:=λt=>if t∈o.looksAt full.toArray\/t=0 then e t else .any
theorem dQ.mask {σ s w N e a} (h:dQ σ s w N e a) (full:List Oper) (o:Oper):dQ σ s w N (oc full o e) a :=
 ⟨h.1,h.2.1,λt=>by unfold oc;split;exact h.2.2 t;exact .any⟩
theorem IG{e':Env} (h0:e 0=e' 0) (h:∀t∈o.looksAt full.toArray,e t=e' t):oc full o e=oc full o e':=by
 funext t;unfold oc;split
 ·rename_i ht;rcases ht with ht|rfl
  ·exact h t ht
  ·exact h0
 ·rfl
def Lx (P:Program) (full:List Oper) (o:Oper) (e:Env) (s:List Obj) (v:V) (s1:List Obj):Prop :=
 ∀(σ:Gh) (w:World) (N:Nat) (a:Act),Inv σ s w->dQ σ s w N (oc full o e) a->vm P o σ s w a λv' s'=>v'=v/\s'=s1
def ll (P:Program) (o:Oper) (e:Env) (s:List Obj) (v:V) (s1:List Obj):Prop:=cN P o e s λv' s'=>v'=v/\s'=s1
theorem js{v:V}{s1:List Obj} (h:ll P o e s v s1):Lx P full o e s v s1:=by
 intro σ w N a hI hR;refine CF hI hR ?_;have:cN P o e s (λv' s'=>v'=v/\s'=s1)=cN P o (oc full o e) s (λv' s'=>v'=v/\s'=s1):=Kz (by simp [oc]) λx hx=>by
  cases x with
  |tmp t =>
   have ht:t∈o.looksAt full.toArray:=List.mem_append_left _ (List.mem_filterMap.2 ⟨.tmp t,by simpa using hx,rfl⟩);simp [ev,oc,ht]
  |_=>rfl
 rw[<- this];exact h
structure Gs where
 val:Option V
 tf:List Obj->List Obj
def nP (x:Gs):V:=x.val.getD .un
def Lr (fs:cx) (k:Nat) (f:List Obj->List Obj):Prop :=
 ∀s,(f s).length=s.length/\(∀id,id ∉ nq fs k->(f s)[id]?=s[id]?)/\∀s',s'.length=s.length->∀id,id∈nq fs k->s'[id]?=s[id]?->(f s)[id]?=(f s')[id]?
def LQ (P:Program) (full:List Oper) (bars:List Nat) (fs:cx) (i:Nat) (o:Oper) (x:Gs) (e:Env) (s:List Obj):Prop :=
 (bars.contains i=false->Lr fs i x.tf) /\
 match x.val with
 |none=>(∀s,x.tf s=s)/\∃g want d,o.guard=some (g,want)/\lM full g=some d/\(e d=.d (.sc (.bool (!want)))\/e d=.un)
 |some v=>(∀g want,o.guard=some (g,want)->∃d,lM full g=some d/\e d=.d (.sc (.bool want))) /\
   ∀s',s'.length=s.length->(bars.contains i=true->s'=s)->(∀id,Pg fs i id->s'[id]?=s[id]?)->Lx P full o e s' v (x.tf s')
def Trace (P:Program) (N:Nat) (full:List Oper) (bars:List Nat) (fs:cx):Nat->List Oper->List Gs->Env->List Obj->Env->List Obj->Prop
 |_,[],[],e,s,e',s'=>e'=e/\s'=s
 |i,o::rest,x::tr,e,s,e',s'=>dY N o.dst/\LQ P full bars fs i o x e s/\Trace P N full bars fs (i+1) rest tr (iP e o.dst (nP x)) (x.tf s) e' s'
 |_,_,_,_,_,_,_=>False
def ed:List Oper->List Gs->(Nat->Bool)->Nat->Env->Env
 |o::l,x::tr,L,k,e=>ed l tr L (k+1) (if L k then iP e o.dst (nP x) else e)
 |_,_,_,_,e=>e
theorem Ev{d:Nat}{v:V} (h:e d=v):bz e d v=e:=by
 funext t;unfold bz;split
 ·rename_i ht;subst ht;exact h.symm
 ·rfl
theorem ou:∀(l:List Oper) (tr:List Gs) (L:Nat->Bool) (k:Nat) (e:Env),(∀j,k<=j->L j=false)->ed l tr L k e=e
 |[],_,_,_,_,_=>by simp [ed]
 |_::_,[],_,_,_,_=>by simp [ed]
 |o::l,x::tr,L,k,e,h=>by simp only[ed,h k (af3 _)];exact ou l tr L (k+1) e λj hj=>h j (by omega)
theorem HN:∀(m:Nat) (l:List Oper) (tr:List Gs) (k:Nat) (e:Env) (o:Oper) (x:Gs),l[m]?=some o->tr[m]?=some x ->
  ed l tr (λj=>decide (j<k+m+1)) k e=iP (ed l tr (λj=>decide (j<k+m)) k e) o.dst (nP x)
 |_,[],_,_,_,_,_,h,_=>by simp at h
 |_,_::_,[],_,_,_,_,_,h=>by simp at h
 |0,o'::l,x'::tr,k,e,o,x,h1,h2=>by simp only[agm,afY]at h1 h2;subst h1;subst h2;simp only[ed,ag0,agK,decide_false,age,if_false,show k<k+1 by omega,decide_true,if_true];rw[ou _ _ _ _ _ (λj hj=>by simp;omega),ou _ _ _ _ _ (λj hj=>by simp;omega)]
 |m+1,o'::l,x'::tr,k,e,o,x,h1,h2=>by
  have h3:decide (k<k+(m+1)+1)=true:=by simp;omega
  have h4:decide (k<k+(m+1))=true:=by simp
  simp only[ed,h3,h4,if_true];have:=HN m l tr (k+1) (iP e o'.dst (nP x')) o x (by simpa using h1) (by simpa using h2);rw[show k+(m+1)+1=k+1+m+1 by omega,show k+(m+1)=k+1+m by omega];exact this
theorem pU (e:Env) (d:Option Nat) (v:V) (t:Nat):iP e d v t=if d=some t then v else e t:=by
 cases d with
 |none=>simp [iP]
 |some d =>
  simp only[iP,bz,afY];by_cases h:t=d
  ·rw[be h,be h.symm]
  ·rw[ap h,ap (Ne.symm h)]
theorem ks (t:Nat):∀(l:List Oper) (tr:List Gs) (L L':Nat->Bool) (k:Nat) (e e':Env),e t=e' t->(∀m o,l[m]?=some o->o.dst=some t->L (k+m)=L' (k+m)) ->
  ed l tr L k e t=ed l tr L' k e' t
 |[],_,_,_,_,_,_,he,_=>by simpa [ed]using he
 |_::_,[],_,_,_,_,_,he,_=>by simpa [ed]using he
 |o::l,x::tr,L,L',k,e,e',he,h=>by
  simp only[ed];refine ks t l tr L L' (k+1) _ _ ?_ λm o' iY hd=>by have:=h (m+1) o' (by simpa using iY) hd;simpa [agM,Nat.add_comm 1 m]using this
  by_cases hd:o.dst=some t
  ·have:=h 0 o rfl hd;simp only[ag0]at this;rw[this];split
   ·rw[pU,pU,be hd,be hd]
   ·exact he
  ·have h1:∀(b:Bool) (f:Env),(if b=true then iP f o.dst (nP x) else f) t=f t:=λb f=>by cases b <;> simp [pU,hd]
   rw[h1,h1];exact he
def gv:List Gs->(Nat->Bool)->Nat->List Obj->List Obj
 |x::tr,L,k,s=>gv tr L (k+1) (if L k then x.tf s else s)
 |[],_,_,s=>s
theorem qa:∀(tr:List Gs) (L:Nat->Bool) (k:Nat) (s:List Obj),(∀j,k<=j->L j=false)->gv tr L k s=s
 |[],_,_,_,_=>rfl
 |x::tr,L,k,s,h=>by simp only[gv];rw[qa tr L (k+1) _ λj hj=>h j (by omega)];simp [h k (af3 _)]
theorem qO:∀(tr:List Gs) (L L':Nat->Bool) (k:Nat) (s:List Obj),(∀m,m<tr.length->L (k+m)=L' (k+m))->gv tr L k s=gv tr L' k s
 |[],_,_,_,_,_=>rfl
 |x::tr,L,L',k,s,h=>by
  simp only[gv];have h0:L k=L' k:=by have:=h 0 (by simp);simpa using this
  rw[h0];exact qO tr L L' (k+1) _ λm hm=>by have:=h (m+1) (by simpa using hm);rw[show k+(m+1)=k+1+m by omega]at this;exact this
theorem Mi:∀(m:Nat) (tr:List Gs) (k:Nat) (s:List Obj) (x:Gs),tr[m]?=some x ->
  gv tr (λj=>decide (j<k+m+1)) k s=x.tf (gv tr (λj=>decide (j<k+m)) k s)
 |_,[],_,_,_,h=>by simp at h
 |0,x'::tr,k,s,x,h=>by simp only[agm,afY]at h;subst h;simp only[gv,ag0,agK,decide_false,age,if_false,show k<k+1 by omega,decide_true,if_true];rw[qa _ _ _ _ (λj hj=>by simp;omega),qa _ _ _ _ (λj hj=>by simp;omega)]
 |m+1,x'::tr,k,s,x,h=>by
  have h3:decide (k<k+(m+1)+1)=true:=by simp;omega
  have h4:decide (k<k+(m+1))=true:=by simp
  simp only[gv,h3,h4,if_true];have:=Mi m tr (k+1) (x'.tf s) x (by simpa using h);rw[show k+(m+1)+1=k+1+m+1 by omega,show k+(m+1)=k+1+m by omega];exact this
theorem qv {bars:List Nat}{fs:cx}{R:Nat->Prop}:∀(tr:List Gs) (L L':Nat->Bool) (k:Nat) (s s':List Obj),
  (∀m x,tr[m]?=some x->bars.contains (k+m)=false->Lr fs (k+m) x.tf) ->
  (∀m,m<tr.length->L (k+m)=L' (k+m)/\(bars.contains (k+m)=true->L (k+m)=true->s=s'/\∀m',m'<m->L (k+m')=L' (k+m'))\/(bars.contains (k+m)=false/\∀id,R id->id ∉ nq fs (k+m))) ->
  s.length=s'.length->(∀id,R id->s[id]?=s'[id]?) ->
  (gv tr L k s).length=(gv tr L' k s').length/\∀id,R id->(gv tr L k s)[id]?=(gv tr L' k s')[id]?
 |[],_,_,_,s,s',_,_,hl,h=>⟨hl,h⟩
 |x::tr,L,L',k,s,s',LW,hd,hl,h=>by
  simp only[gv];have aat:∀m y,tr[m]?=some y->bars.contains (k+1+m)=false->Lr fs (k+1+m) y.tf:=λm y hy hb=>by have:=LW (m+1) y (by simpa using hy) (by rw[show k+(m+1)=k+1+m by omega];exact hb);rwa [show k+(m+1)=k+1+m by omega]at this
  have next:∀t t':List Obj,t.length=t'.length->(∀id,R id->t[id]?=t'[id]?)->(s=s'->L k=L' k->t=t') ->
    (gv tr L (k+1) t).length=(gv tr L' (k+1) t').length/\∀id,R id->(gv tr L (k+1) t)[id]?=(gv tr L' (k+1) t')[id]?:=by
   intro t t' h1 h2 h3;refine qv tr L L' (k+1) t t' aat (λm hm=>?_) h1 h2;have:=hd (m+1) (by simpa using hm);rw[show k+(m+1)=k+1+m by omega]at this;rcases this with ⟨g1,g2⟩|g
   ·refine .inl ⟨g1,λhb RD=>?_⟩;obtain⟨g3,g4⟩:=g2 hb RD;have g0:=g4 0 (by omega);rw[ag0]at g0;exact⟨h3 g3 g0,λm' u5=>by
     have:=g4 (m'+1) (by omega);rwa [show k+(m'+1)=k+1+m' by omega]at this⟩
   ·exact .inr g
  have d0:=hd 0 (by simp);rw[ag0]at d0;have Xp:=LW 0 x rfl;rw[ag0]at Xp;cases hL:L k with
  |false =>
   cases Vx:L' k with
   |false =>
    simp only[age,if_false];exact next s s' hl h λh _=>h
   |true =>
    simp only[age,if_false,if_true];rcases d0 with ⟨d0,_⟩|⟨d1,d2⟩
    ·rw[hL,Vx]at d0;cases d0
    ·obtain⟨f1,f2,_⟩:=Xp d1 s';exact next s (x.tf s') (by rw[f1];exact hl) (λid cS=>by rw[f2 id (d2 id cS)];exact h id cS) λ_ h'=>by rw[hL,Vx]at h';cases h'
  |true =>
   cases Vx:L' k with
   |false =>
    simp only[age,if_false,if_true];rcases d0 with ⟨d0,_⟩|⟨d1,d2⟩
    ·rw[hL,Vx]at d0;cases d0
    ·obtain⟨f1,f2,_⟩:=Xp d1 s;exact next (x.tf s) s' (by rw[f1];exact hl) (λid cS=>by rw[f2 id (d2 id cS)];exact h id cS) λ_ h'=>by rw[hL,Vx]at h';cases h'
   |true =>
    simp only[if_true];cases hb:bars.contains k with
    |true =>
     rcases d0 with ⟨_,d0⟩|⟨d1,_⟩
     ·obtain⟨rfl,_⟩:=d0 hb hL;exact next _ _ rfl (λ_ _=>rfl) λ_ _=>rfl
     ·rw[hb]at d1;cases d1
    |false =>
     obtain⟨f1,f2,f3⟩:=Xp hb s;obtain⟨f1',f2',_⟩:=Xp hb s';refine next _ _ (by rw[f1,f1'];exact hl) (λid cS=>?_) λh _=>by rw[h]
     by_cases hw:id∈nq fs k
     ·exact f3 s' hl.symm id hw (h id cS).symm
     ·rw[f2 id hw,f2' id hw];exact h id cS
theorem Ia {P:Program}{N:Nat}{full:List Oper}{bars:List Nat}{fs:cx}:∀(l:List Oper) (tr:List Gs) (i:Nat) (e:Env) (s:List Obj) (e':Env) (s':List Obj),Trace P N full bars fs i l tr e s e' s' ->
  tr.length=l.length/\e'=ed l tr (λ_=>true) i e/\s'=gv tr (λ_=>true) i s /\
  ∀(m:Nat) (o:Oper) (x:Gs),l[m]?=some o->tr[m]?=some x->dY N o.dst/\LQ P full bars fs (i+m) o x (ed l tr (λj=>decide (j<i+m)) i e) (gv tr (λj=>decide (j<i+m)) i s)
 |[],[],i,e,s,e',s',h=>by obtain⟨rfl,rfl⟩:=h;exact⟨rfl,by simp [ed],rfl,λm o x h=>by simp at h⟩
 |[],_::_,_,_,_,_,_,h=>h.elim
 |_::_,[],_,_,_,_,_,h=>h.elim
 |o::l,x::tr,i,e,s,e',s',h=>by
  obtain⟨hd,hx,ht⟩:=h;obtain⟨h0,h1,h2,h3⟩:=Ia l tr (i+1) _ _ e' s' ht;refine⟨by simp [h0],by simp only[ed,if_true];exact h1,by simp only[gv,if_true];exact h2,λm o1 x1 ho Qj=>?_⟩;cases m with
  |zero =>
   simp only[agm,afY]at ho Qj;subst ho;subst Qj;have e1:ed (o::l) (x::tr) (λj=>decide (j<i+0)) i e=e:=ou _ _ _ _ _ λj hj=>by simp;omega
   have e2:gv (x::tr) (λj=>decide (j<i+0)) i s=s:=qa _ _ _ _ λj hj=>by simp;omega
   rw[e1,e2];exact⟨hd,hx⟩
  |succ m =>
   have:=h3 m o1 x1 (by simpa using ho) (by simpa using Qj);rw[show i+(m+1)=i+1+m by omega];have az:decide (i<i+1+m)=true:=by simp;omega
   have e1:ed (o::l) (x::tr) (λj=>decide (j<i+1+m)) i e=ed l tr (λj=>decide (j<i+1+m)) (i+1) (iP e o.dst (nP x)):=by simp only[ed,az,if_true]
   have e2:gv (x::tr) (λj=>decide (j<i+1+m)) i s=gv tr (λj=>decide (j<i+1+m)) (i+1) (x.tf s):=by simp only[gv,az,if_true]
   rw[e1,e2];exact this
def uX (bn:Array Bool) (j:Nat):Bool:=bn.getD j false
def UX (bn:Array Bool):Nat:=(bn.toList.filter (!·)).length
theorem SR (h:bn.getD i true=false):UX (bn.setIfInBounds i true)<UX bn:=by
 have hi:i<bn.size:=by
  rcases agi i bn.size with h'|h'
  ·exact h'
  ·simp [Array.getElem?_eq_none h']at h
 have hv:bn.toList[i]?=some false:=by rw[agh]at h;rw[agI];rw[Array.getElem?_eq_getElem hi]at h ⊢;simpa using h
 unfold UX;rw[Array.toList_setIfInBounds];generalize bn.toList=l at hv;clear h hi;induction l generalizing i with
 |nil=>simp at hv
 |cons b l ih =>
  cases i with
  |zero =>
   simp only[agm,afY]at hv;subst hv;simp
  |succ i =>
   have:=ih (i:=i) (by simpa using hv);simp only[agf,List.filter_cons];cases b
   ·simp only[af4,if_true,afZ];omega
   ·simpa using this
theorem Qv (h:UX bn=0) (hi:i<bn.size):bn.getD i false=true:=by unfold UX at h;rw[List.length_eq_zero_iff,List.filter_eq_nil_iff]at h;have:=h bn[i] (by simp);simpa [Array.getD,hi]using this
section
variable {P:Program}{N:Nat}{full:List Oper}{bars:List Nat}{fs:cx}{tr:List Gs}{e0:Env}{s0:List Obj}
variable{i:Nat}{oi:Oper}{L:Nat->Bool}{L':Nat->Bool}{s:List Obj}{s1:List Obj}{e1:Env}
theorem oy (hd:kq full bars fs=true) {j:Nat}{oj:Oper} (hi:full[i]?=some oi) (hj:full[j]?=some oj) (Wb:i<j):Bw full (Fg full []) bars fs i j oi oj=true:=by simp only[kq,af8]at hd;have h1:=hd (oi,i) (by rw[List.mem_zipIdx_iff_getElem?];exact hi);simp only[agb,af8]at h1;have h2:=h1.2 (oj,j) (by rw[List.mem_zipIdx_iff_getElem?];exact hj);simpa [Wb]using h2
theorem sk (hd:kq full bars fs=true) (hi:full[i]?=some oi) {x:Edge} (hx:x∈oi.after) (hb:Region.binds .any x=true):x.on<i:=by simp only[kq,af8]at hd;have h1:=hd (oi,i) (by rw[List.mem_zipIdx_iff_getElem?];exact hi);simp only[agb,af8]at h1;have:=h1.1.2 x (by simpa using hx);simpa [hb]using this
theorem pP {L:Nat->Prop} (hL:kZ full L) {j:Nat} (h:UI (Fg full []) i j=true) (hj:L j):L i :=
 Bk hL full [] (by simp) (by simp) j i h hj
theorem CQ (hd:kq full bars fs=true) (hL:kZ full λj=>L j=true) (hi:full[i]?=some oi) (AQ:L i=false)
  (hready:∀x∈oi.after.toList,Region.binds .any x=true->L x.on=true) {m:Nat}{om:Oper} (hm:full[m]?=some om) (cB:m≠i) :
  L m=decide (m<i)\/((om.apart full.toArray oi=true/\oi.apart full.toArray om=true)/\bars.contains m=false/\bars.contains i=false/\tj fs m i=true):=by
 have Vx:kZ full λj=>L j=true\/j=i:=by
  intro j o ho hj x hx hb;rcases hj with hj|rfl
  ·exact .inl (hL j o ho hj x hx hb)
  ·rw[hi]at ho;cases ho;exact .inl (hready x hx hb)
 rcases Nat.lt_or_gt_of_ne cB with az|Yz
 ·have hp:=oy hd hm hi az;simp only[Bw,Bool.or_eq_true]at hp;rcases hp with hp|hp
  ·rcases pP Vx hp (.inr rfl) with h|h
   ·exact .inl (by rw[h];simp [az])
   ·exact absurd h cB
  ·simp only[agb,Bool.not_eq_true']at hp;obtain⟨⟨⟨⟨a1,a2⟩,a3⟩,a4⟩,a5⟩:=hp;exact .inr ⟨⟨a1,a2⟩,a3,a4,a5⟩
 ·have hp:=oy hd hi hm Yz;simp only[Bw,Bool.or_eq_true]at hp;rcases hp with hp|hp
  ·cases Ld:L m with
   |false=>exact .inl (by simp;omega)
   |true=>have:=pP hL hp Ld;rw[AQ]at this;cases this
  ·simp only[agb,Bool.not_eq_true']at hp;obtain⟨⟨⟨⟨a1,a2⟩,a3⟩,a4⟩,a5⟩:=hp;exact .inr ⟨⟨a2,a1⟩,a4,a3,z7 a5⟩
theorem vU (hd:kq full bars fs=true) (hL:kZ full λj=>L j=true) {k m:Nat} (hk:bars.contains k=true) (Zd:L k=true) (hkf:k<full.length) (hm:m<k):L m=true:=by
 have hp:=oy hd (afP (by omega:m<full.length)) (afP hkf) hm;simp only[Bw,Bool.or_eq_true]at hp;rcases hp with hp|hp
 ·exact pP hL hp Zd
 ·simp only[agb,Bool.not_eq_true']at hp;rw[hk]at hp;exact absurd hp.1.2 (by simp)
theorem kZ.add (hL:kZ full λj=>L j=true) (hi:full[i]?=some oi) (hready:∀x∈oi.after.toList,Region.binds .any x=true->L x.on=true)
  (h':∀j,L' j=(L j||decide (j=i))):kZ full λj=>L' j=true:=by
 intro j o ho hj x hx hb;have hj:L' j=true:=hj;show L' x.on=true;rw[h',Bool.or_eq_true]at hj ⊢;rcases hj with hj|hj
 ·exact .inl (hL j o ho hj x hx hb)
 ·rw[decide_eq_true_eq]at hj;subst hj;rw[hi]at ho;cases ho;exact .inl (hready x hx hb)
theorem yz (hd:kq full bars fs=true) (hL:kZ full λj=>L j=true) (hi:full[i]?=some oi) (AQ:L i=false)
  (hready:∀x∈oi.after.toList,Region.binds .any x=true->L x.on=true) {t:Nat} (ht:t∈oi.looksAt full.toArray):ed full tr L 0 e0 t=ed full tr (λj=>decide (j<0+i)) 0 e0 t:=by
 refine ks t full tr _ _ 0 _ _ rfl λm om hm Dh=>?_;simp only[afX];by_cases cB:m=i
 ·subst cB;simp [AQ]
 ·rcases CQ hd hL hi AQ hready hm cB with h|⟨⟨h,_⟩,_⟩
  ·exact h
  ·exact absurd ht ((Oper.apart_spec h).1 t Dh)
theorem P7 (hd:kq full bars fs=true) (L L':Nat->Bool):ed full tr L 0 e0 0=ed full tr L' 0 e0 0:=by refine ks 0 full tr _ _ 0 _ _ rfl λm om hm Dh=>?_;unfold kq at hd;have:=List.all_eq_true.1 hd (om,m) (List.mem_zipIdx_iff_getElem?.2 hm);simp [Um,Dh]at this
theorem Ts (hd:kq full bars fs=true) (hL:kZ full λj=>L j=true) (hi:full[i]?=some oi) (AQ:L i=false)
  (hready:∀x∈oi.after.toList,Region.binds .any x=true->L x.on=true) {x:Gs} (hx:tr[i]?=some x) (h':∀j,L' j=(L j||decide (j=i))) :
  ed full tr L' 0 e0=iP (ed full tr L 0 e0) oi.dst (nP x):=by
 funext t;by_cases Ya:oi.dst=some t
 ·rw[pU,be Ya];have h1:ed full tr L' 0 e0 t=ed full tr (λj=>decide (j<0+i+1)) 0 e0 t:=by
   refine ks t full tr _ _ 0 _ _ rfl λm om hm Dh=>?_;simp only[afX];rw[h'];by_cases cB:m=i
   ·subst cB;simp
   ·rcases CQ hd hL hi AQ hready hm cB with h|⟨⟨h,_⟩,_⟩
    ·rw[h];simp only[cB,decide_false,ag7];rw[decide_eq_decide];omega
    ·exact absurd Ya ((Oper.apart_spec h).2.1 t Dh)
  rw[h1,HN i full tr 0 e0 oi x hi hx,pU,be Ya]
 ·rw[pU,ap Ya];refine ks t full tr _ _ 0 _ _ rfl λm om hm Dh=>?_;simp only[afX];rw[h'];by_cases cB:m=i
  ·subst cB;rw[hi]at hm;cases hm;exact absurd Dh Ya
  ·simp [cB]
theorem yf (hd:kq full bars fs=true) (hl:tr.length=full.length) (LW:∀m x,tr[m]?=some x->bars.contains m=false->Lr fs m x.tf) (hL:kZ full λj=>L j=true) (hi:full[i]?=some oi) (AQ:L i=false)
  (hready:∀x∈oi.after.toList,Region.binds .any x=true->L x.on=true) {R:Nat->Prop} (hR:∀m,bars.contains i=false->tj fs m i=true->∀id,R id->id ∉ nq fs m) :
  (gv tr L 0 s0).length=(gv tr (λj=>decide (j<0+i)) 0 s0).length/\∀id,R id->(gv tr L 0 s0)[id]?=(gv tr (λj=>decide (j<0+i)) 0 s0)[id]?:=by
 have hif:i<full.length:=(List.getElem?_eq_some_iff.1 hi).1;refine qv (bars:=bars) (fs:=fs) tr _ _ 0 s0 s0 (λm x hx hb=>by rw[afX]at hb ⊢;exact LW m x hx hb) (λm hm=>?_) rfl λ_ _=>rfl;simp only[afX];have VR:bars.contains m=true->L m=true->m<i->∀m',m'<m->L m'=decide (m'<i):=by intro hb Ld Z8 m' u5;rw[vU hd hL hb Ld (by omega) u5];simp;omega
 by_cases cB:m=i
 ·subst cB;exact .inl ⟨by simp [AQ],λ_ h=>by rw[AQ]at h;cases h⟩
 ·rcases CQ hd hL hi AQ hready (afP (by omega:m<full.length)) cB with h|⟨_,h1,h2,h3⟩
  ·exact .inl ⟨h,λhb Ld=>⟨trivial,VR hb Ld (by rw[Ld]at h;simpa using h.symm)⟩⟩
  ·exact .inr ⟨h1,hR m h2 h3⟩
theorem VF (hd:kq full bars fs=true) (hl:tr.length=full.length) (LW:∀m x,tr[m]?=some x->bars.contains m=false->Lr fs m x.tf) (hL:kZ full λj=>L j=true) (hi:full[i]?=some oi) (AQ:L i=false)
  (hready:∀x∈oi.after.toList,Region.binds .any x=true->L x.on=true) {x:Gs} (hx:tr[i]?=some x) (h':∀j,L' j=(L j||decide (j=i))) :
  gv tr L' 0 s0=x.tf (gv tr L 0 s0):=by
 have hif:i<full.length:=(List.getElem?_eq_some_iff.1 hi).1;have az:=Mi i tr 0 s0 x hx;rw[afX]at az;have VR:∀m,m<tr.length->bars.contains m=true->L m=true->m<i->∀m',m'<m->L m'=decide (m'<i):=by intro m hm hb Ld Z8 m' u5;rw[vU hd hL hb Ld (by omega) u5];simp;omega
 by_cases hb:bars.contains i=true
 ·
  have bA:∀m,m<tr.length->L m=decide (m<i):=by
   intro m hm;by_cases cB:m=i
   ·subst cB;simp [AQ]
   ·rcases CQ hd hL hi AQ hready (afP (by omega:m<full.length)) cB with h|⟨_,_,h2,_⟩
    ·exact h
    ·rw[hb]at h2;cases h2
  rw[qO tr L (λj=>decide (j<i)) 0 s0 λm hm=>by rw[afX];exact bA m hm,<- az];refine qO tr _ _ 0 s0 λm hm=>?_;rw[afX,h',bA m hm];by_cases cB:m=i
  ·subst cB;simp
  ·simp only[cB,decide_false,ag7];rw[decide_eq_decide];omega
 ·have hb:bars.contains i=false:=by simpa using hb
  obtain⟨f1,f2,f3⟩:=LW i x hx hb (gv tr L 0 s0)
  -- off ZD i writes: nothing is new
  have aaP:=qv (bars:=bars) (fs:=fs) (R:=λid=>id ∉ nq fs i) tr L' L 0 s0 s0 (λm y hy hb=>by rw[afX]at hb ⊢;exact LW m y hy hb) (λm hm=>by
    simp only[afX];by_cases cB:m=i
    ·subst cB;exact .inr ⟨hb,λid cS=>cS⟩
    ·have e1:L' m=L m:=by rw[h'];simp [cB]
     refine .inl ⟨e1,λWs Ld=>⟨trivial,λm' u5=>?_⟩⟩;rw[e1]at Ld;have:=vU hd hL Ws Ld (by omega) u5;rw[h',this];rfl) rfl λ_ _=>rfl
  -- on ZD i writes: as in WC aak order
  have onW:=qv (bars:=bars) (fs:=fs) (R:=λid=>id∈nq fs i) tr L' (λj=>decide (j<i+1)) 0 s0 s0 (λm y hy hb=>by rw[afX]at hb ⊢;exact LW m y hy hb) (λm hm=>by
    simp only[afX];by_cases cB:m=i
    ·subst cB;refine .inl ⟨by rw[h'];simp,λWs _=>by rw[hb]at Ws;cases Ws⟩
    ·have e1:L' m=L m:=by rw[h'];simp [cB]
     rcases CQ hd hL hi AQ hready (afP (by omega:m<full.length)) cB with h|⟨_,h1,_,h3⟩
     ·refine .inl ⟨by rw[e1,h,decide_eq_decide];omega,λWs Ld=>⟨trivial,λm' u5=>?_⟩⟩;rw[e1]at Ld;have Z8:m<i:=by rw[Ld]at h;simpa using h.symm
      rw[h',VR m hm Ws Ld Z8 m' u5];simp only[show m'≠i by omega,decide_false,ag7];rw[decide_eq_decide];omega
     ·exact .inr ⟨h1,λid cS=>(sU (z7 h3) cS).2⟩) rfl λ_ _=>rfl
  refine agT λid=>?_;by_cases hw:id∈nq fs i
  ·have:=yf (s0:=s0) hd hl LW hL hi AQ hready (R:=λid=>id∈nq fs i) (λm _ hc id cS hm=>(sU hc hm).2 cS);rw[afX]at this;rw[onW.2 id hw,az,f3 _ this.1.symm id hw (this.2 id hw).symm]
  ·rw[aaP.2 id hw,f2 id hw]
theorem Jq {σ:Gh}{w:World}{e:Env}{a:Act}{o:Oper}{g:Nat}{want:Bool}{d:Nat} (hR:dQ σ s w N e a) (ho:o.guard=some (g,want)) (hg:lM full g=some d) :
  (e d=.d (.sc (.bool want))->Region.wanted o (yielded full.toArray a.tmps)=true)/\(e d=.d (.sc (.bool (!want)))\/e d=.un->Region.wanted o (yielded full.toArray a.tmps)=false):=by
 constructor
 ·intro h;have hw:lh (lM full g) e want (λ_=>True) (λ_=>False):=by rw[hg];simp [lh,h]
  obtain⟨_,_,h|h⟩:=v8 hR ho hw
  ·exact h.1
  ·exact h.2.elim
 ·intro h;have hw:lh (lM full g) e want (λ_=>False) (λ_=>True):=by rw[hg];rcases h with h|h <;> simp [lh,h]
  obtain⟨_,_,h|h⟩:=v8 hR ho hw
  ·exact h.2.elim
  ·exact h.1
theorem Oa (hd:kq full bars fs=true) (ht:Trace P N full bars fs 0 full tr e0 s0 e1 s1)
  {YJ:Gh}{WO:List Obj}{Wq:World}{Q:Exit->Env->List Obj->Prop}{r:Option Nat}{D:List Deferred}{ws:World} (hQ:Q .normal e1 s1):∀(fuel:Nat) (bn:Array Bool) (σ:Gh) (w:World) (a:Act),bn.size=full.length->UX bn<=fuel ->
  (kZ full λj=>uX bn j=true)->oE ws w->aF YJ WO Wq σ (gv tr (uX bn) 0 s0) w->Inv σ (gv tr (uX bn) 0 s0) w->dQ σ (gv tr (uX bn) 0 s0) w N (ed full tr (uX bn) 0 e0) a ->
  wpAnyIn (D0 r) 0 P .any full.toArray (QR ws D (QX YJ WO Wq N Q)) fuel bn (Act.wD a D) w:=by
 intro fuel;obtain⟨hl,t1,t2,t3⟩:=Ia full tr 0 e0 s0 e1 s1 ht;have LW:∀m x,tr[m]?=some x->bars.contains m=false->Lr fs m x.tf:=by
  intro m x hx hb;have hm:m<full.length:=by have:=(List.getElem?_eq_some_iff.1 hx).1;omega
  have:=(t3 m full[m] x (afP hm) hx).2.1;rw[afX]at this;exact this hb
 -- when nothing is ready all is bn
 have Gj:∀bn:Array Bool,bn.size=full.length->Region.ready .any full.toArray bn=[]->∀j,j<full.length->uX bn j=true:=by
  intro bn fF hr j;induction j using Nat.strongRecOn with
  |_ j ih =>
   intro hj;cases hlj:uX bn j with
   |true=>rfl
   |false =>
    exfalso;have:j∈Region.ready .any full.toArray bn:=by
     rw[mem_ready];refine⟨?_,full[j],by simp [hj],λx hx hb=>?_⟩
     ·unfold uX at hlj;have:j<bn.size:=by omega
      simpa [Array.getD,this]using hlj
     ·exact ih x.on (sk hd (afP hj) hx hb) (by
       have:=sk hd (afP hj) hx hb;omega)
    rw[hr]at this;cases this
 have fin:∀(bn:Array Bool) (σ:Gh) (w:World) (a:Act),(∀j,j<full.length->uX bn j=true)->oE ws w->aF YJ WO Wq σ (gv tr (uX bn) 0 s0) w->Inv σ (gv tr (uX bn) 0 s0) w ->
   dQ σ (gv tr (uX bn) 0 s0) w N (ed full tr (uX bn) 0 e0) a->QR ws D (QX YJ WO Wq N Q) .normal (Act.wD a D) w:=by
  intro bn σ w a bA hk hE hI hR;have he:ed full tr (uX bn) 0 e0=e1:=by rw[t1];funext t;refine ks t full tr _ _ 0 _ _ rfl λm om hm _=>?_;rw[afX];exact bA m (List.getElem?_eq_some_iff.1 hm).1
  have hs:gv tr (uX bn) 0 s0=s1:=by rw[t2];refine qO tr _ _ 0 _ λm hm=>?_;rw[afX];exact bA m (by omega)
  rw[he,hs]at hR;rw[hs]at hE hI;exact Fk hk hR.1 ⟨e1,σ,s1,hE,hI,hR,hQ⟩
 have I1:∀bn:Array Bool,(∀j,j<full.length->uX bn j=true)->Region.ready .any full.toArray bn=[]:=by
  intro bn bA;rw[List.eq_nil_iff_forall_not_mem];intro j hj;rw[mem_ready]at hj;obtain⟨h0,o,ho,_⟩:=hj;have PD:j<full.length:=by simpa using (Array.getElem?_eq_some_iff.1 ho).1
  have:=bA j PD;unfold uX at this;rw[agh]at this h0;cases hx:bn[j]? with
  |none=>rw[hx]at h0;cases h0
  |some b=>rw[hx]at this h0;simp only[ag9]at this h0;rw[this]at h0;cases h0
 induction fuel with
 |zero =>
  intro bn σ w a fF hu hL hk hE hI hR;have bA:∀j,j<full.length->uX bn j=true:=λj hj=>Qv (by omega) (by omega);exact⟨I1 bn bA,fin bn σ w a bA hk hE hI hR⟩
 |succ fuel ih =>
  intro bn σ w a fF hu hL hk hE hI hR;refine⟨λhr=>fin bn σ w a (Gj bn fF hr) hk hE hI hR,λi hir=>?_⟩;rw[mem_ready]at hir;obtain⟨h0,o,ho,Ut⟩:=hir;have hif:i<full.length:=by simpa using (Array.getElem?_eq_some_iff.1 ho).1
  have RF:full[i]?=some o:=by simpa using ho
  have AQ:uX bn i=false:=by
   unfold uX;have:i<bn.size:=by omega
   simp only[Array.getD,this,dif_pos]at h0 ⊢;exact h0
  have hready:∀x∈o.after.toList,Region.binds .any x=true->uX bn x.on=true:=λx hx hb=>Ut x (by simpa using hx) hb;have hx:∃x,tr[i]?=some x:=⟨tr[i],afP (by omega)⟩
  obtain⟨x,hx⟩:=hx;have h':∀j,uX (bn.setIfInBounds i true) j=(uX bn j||decide (j=i)):=by
   intro j;unfold uX;by_cases Uz:j=i
   ·subst Uz;have:j<bn.size:=by omega
    simp [this]
   ·rw[getD_set_ne false (Ne.symm Uz)];simp [Uz]
  have LJ:=ih (bn.setIfInBounds i true);have heP:=Ts (tr:=tr) (e0:=e0) hd hL RF AQ hready hx h';have Yg:=VF (s0:=s0) hd hl LW hL RF AQ hready hx h';have fK:=kZ.add hL RF hready h';have hul:=SR h0;obtain⟨Dh,_,GO⟩:=t3 i o x RF hx;unfold wpOpIn;rw[ho];simp only;cases hv:x.val with
  |none =>
   rw[hv]at GO;obtain⟨cI,g,want,d,hg,VX,RM⟩:=GO;have Vb:d∈o.looksAt full.toArray:=by
    unfold lM at VX;split at VX
    ·rename_i og S2;simp [Oper.looksAt,hg,S2,VX]
    ·cases VX
   rw[<- yz (tr:=tr) (e0:=e0) hd hL RF AQ hready Vb]at RM;rw[show Region.wanted o (yielded full.toArray (Act.wD a D).tmps)=false from (Jq hR hg VX).2 RM];simp only[age,if_false];rw[cI]at Yg;rw[y9];refine⟨λ_ _=>trivial,?_⟩;refine LJ σ w _ (by simpa using fF) (by omega) fK hk (by rw[Yg];exact hE) (by rw[Yg];exact hI) ?_;rw[Yg,heP];have:nP x=.un:=by simp [nP,hv]
   rw[this];exact hR.put Dh .un
  |some v =>
   rw[hv]at GO;obtain⟨VX,FP⟩:=GO;have W7:Region.wanted o (yielded full.toArray a.tmps)=true:=by
    cases hg:o.guard with
    |none=>simp [Region.wanted,hg]
    |some gw =>
     obtain⟨g,want⟩:=gw;obtain⟨d,RM,hgv⟩:=VX g want hg;have Vb:d∈o.looksAt full.toArray:=by
      unfold lM at RM;split at RM
      ·rename_i og S2;simp [Oper.looksAt,hg,S2,RM]
      ·cases RM
     rw[<- yz (tr:=tr) (e0:=e0) hd hL RF AQ hready Vb]at hgv;exact(Jq hR hg RM).1 hgv
   rw[be (show Region.wanted o (yielded full.toArray (Act.wD a D).tmps)=true from W7)];have WU:Lx P full o (ed full tr (uX bn) 0 e0) (gv tr (uX bn) 0 s0) v (gv tr (uX (bn.setIfInBounds i true)) 0 s0):=by
    have hm:oc full o (ed full tr (uX bn) 0 e0)=oc full o (ed full tr (λj=>decide (j<0+i)) 0 e0):=IG (P7 hd _ _) λt ht=>yz hd hL RF AQ hready ht;unfold Lx;rw[hm,Yg];refine FP _ ?_ ?_ ?_
    ·exact(yf (s0:=s0) hd hl LW hL RF AQ hready (R:=λ_=>False) (λ_ _ _ _ h=>h.elim)).1
    ·intro hb;rw[afX]at hb;have:=yf (s0:=s0) hd hl LW hL RF AQ hready (R:=λ_=>True) (λ_ h=>by rw[hb]at h;cases h);exact agT λid=>this.2 id trivial
    ·intro id cS;rw[afX]at cS;exact(yf (s0:=s0) hd hl LW hL RF AQ hready (R:=λid=>Pg fs i id) (λm _ hc id cS hw=>(sU hc hw).1 cS)).2 id cS
   refine Oper.wpIn_mono (λa' w' ⟨a0,h1,u,v',σ',s',ha,vV,jo,oR,hK⟩=>?_) (Mr (λa' w' ⟨u,_,_,_,ha,_⟩=>⟨u,ha⟩) (WU σ w N a hI (hR.mask full o)));obtain⟨rfl,rfl⟩:=hK;subst ha h1;refine LJ σ' w' _ (by simpa using fF) (by omega) fK (hk.trans (.of hI vV)) (hE.trans vV) jo ?_;rw[heP];have:nP x=v':=by simp [nP,hv]
   rw[this];exact(hR.aX vV).put Dh oR
theorem IU (hm:P.follows .mixedOrders=true) (hd:kq full bars fs=true) {e:Env} (ht:Trace P N full bars fs 0 full tr e s e1 s1) {K:Env->List Obj->Prop} (hK:K e1 s1):tb P N full e s K:=by
 intro σ0 WO w0 Q Xc σ w a id hE hI hR;intro r D;refine wpIn_region_any hm ?_;have hf:∀j,uX (Array.replicate full.toArray.size false) j=false:=by intro j;unfold uX;rw[agh,Array.getElem?_replicate];split <;> rfl
 have hs:gv tr (uX (Array.replicate full.toArray.size false)) 0 s=s:=qa _ _ _ _ λj _=>hf j;have he:ed full tr (uX (Array.replicate full.toArray.size false)) 0 e=e:=ou _ _ _ _ _ λj _=>hf j;refine Oa hd ht (Xc e1 s1 hK) _ _ σ _ a (by simp) ?_ (λj o _ hj=>by have hj:uX _ j=true:=hj;rw[hf j]at hj;cases hj) (λ_ _ h _=>h) ?_ ?_ ?_
 ·unfold UX;refine ag4 (List.length_filter_le _ _) (by simp)
 ·rw[hs];exact hE.trans (ot hI).1
 ·rw[hs];exact(ot hI).2
 ·rw[hs,he];exact hR.aX (ot hI).1
end
end Go.VL
