/- A part of the proof (Vn Vo Vp Vpa Vq Vr Vs Vt Vv Vw Vy Vz Vza Vzb Vzc Vzd Vze Vu Vx). -/
import Derived.ProofKit
import Derived.OpenShut
import Derived.Test.YtmihcpdhcillaaaGreatBG1
set_option linter.unusedSimpArgs false
set_option linter.unusedVariables false
set_option maxRecDepth 100000
set_option maxHeartbeats 80000000
namespace Go.VL
def IX (acc:List Nat) (es:List Edge):Nat :=
 es.foldl (fun m e=>if Region.binds .any e then m ||| 2 ^ e.on ||| acc.getD e.on 0 else m) 0
def z9:List Oper→List Nat→List Nat
 |[],acc=>acc
 |o::rest,acc=>z9 rest (acc++[IX acc o.after.toList])
def Pn (ms:List Nat) (i j:Nat):Bool:=(ms.getD j 0).testBit i
def jd (full:List Oper) (L:Nat→Prop):Prop:=∀j o,full[j]?=some o→L j→∀e∈o.after.toList,Region.binds .any e=true→L e.on
theorem rD {L:Nat→Prop}{acc:List Nat} (ky:∀j i,(acc.getD j 0).testBit i=true→L j→L i):∀(es:List Edge) (m:Nat),(∀e∈es,Region.binds .any e=true→L e.on)→(∀i,m.testBit i=true→L i) →
  ∀i,(es.foldl (fun m e=>if Region.binds .any e then m ||| 2 ^ e.on ||| acc.getD e.on 0 else m) m).testBit i=true→L i
 |[],m,_,hm,i,h=>hm i h
 |e::es,m,he,hm,i,h=>by
  simp only[List.foldl_cons]at h
  refine rD ky es _ (fun e' h'=>he e' (List.mem_cons_of_mem _ h')) (fun i' h'=>?_) i h
  split at h'
  ·rename_i hb
   have UG:=he e (List.mem_cons_self ..) hb
   rw[Nat.testBit_or,Nat.testBit_or,Nat.testBit_two_pow]at h'
   simp only[Bool.or_eq_true,decide_eq_true_eq]at h'
   rcases h' with (h'|h')|h'
   ·exact hm i' h'
   ·rw[← h'];exact UG
   ·exact ky _ _ h' UG
  ·exact hm i' h'
theorem xN {full:List Oper}{L:Nat→Prop} (hL:jd full L):∀(l:List Oper) (acc:List Nat),(∀j,l[j]?=full[acc.length+j]?)→(∀j i,(acc.getD j 0).testBit i=true→L j→L i) →
  ∀j i,Pn (z9 l acc) i j=true→L j→L i
 |[],acc,_,ky,j,i,h,hj=>ky j i h hj
 |o::rest,acc,hl,ky,j,i,h,hj=>by
  simp only[z9]at h
  refine xN hL rest _ (fun k=>by have:=hl (k+1);simpa [XX,Nat.add_comm 1 k]using this) (fun k i' hk RO=>?_) j i h hj
  by_cases aS:k<acc.length
  ·rw[List.getD_eq_getElem?_getD,Xg aS,← List.getD_eq_getElem?_getD]at hk
   exact ky k i' hk RO
  ·by_cases heq:k=acc.length
   ·subst heq
    rw[List.getD_eq_getElem?_getD,Xm (W4 _)]at hk
    simp only[X3,W9,Option.getD_some]at hk
    have ho:full[acc.length]?=some o:=by have:=hl 0;simpa using this.symm
    exact rD ky _ 0 (fun e he hb=>hL _ o ho RO e he hb) (by simp) i' hk
   ·rw[List.getD_eq_getElem?_getD,XQ (by simp;omega)]at hk
    simp at hk
abbrev cF:=List (Nat×List Nat×List Nat)
def fP:cF→Nat→Option (List Nat×List Nat)
 |[],_=>none
 |(k,f)::l,i=>if k=i then some f else fP l i
def lY (fs:cF) (i:Nat):List Nat :=
 match fP fs i with
 |some (_,w)=>w
 |none=>[]
def Bz:cF→List Nat
 |[]=>[]
 |(_,_,w)::l=>w++Bz l
theorem DG:∀{fs:cF}{i id:Nat},id∈lY fs i→id∈Bz fs
 |[],i,id,h=>by simp [lY,fP]at h
 |(k,r,w)::l,i,id,h=>by
  unfold lY at h
  simp only[fP]at h
  simp only[Bz,List.mem_append]
  by_cases hk:k=i
  ·rw[if_pos hk]at h;exact .inl h
  ·rw[if_neg hk]at h;exact .inr (DG h)
def NP (fs:cF) (i id:Nat):Prop :=
 match fP fs i with
 |some (r,_)=>id∈r
 |none=>id ∉ Bz fs
def pn (fs:cF) (i j:Nat):Bool :=
 match fP fs i,fP fs j with
 |some (r,w),some (r',w')=>w.all (fun id=>!r'.contains id&&!w'.contains id)&&w'.all fun id=>!r.contains id
 |_,_=>true
def yk (full:List Oper) (ms:List Nat) (bars:List Nat) (fs:cF) (i j:Nat) (oi oj:Oper):Bool :=
 Pn ms i j||(oi.apart full.toArray oj&&oj.apart full.toArray oi&&!bars.contains i&&!bars.contains j&&pn fs i j)
def ND (o:Oper):Bool:=(match o.op with|.select ..=>false|_=>true)&&!(o.dst == some 0)
def iG (full:List Oper) (bars:List Nat) (fs:cF):Bool :=
 let ms:=z9 full []
 full.zipIdx.all (fun (oi,i)=>ND oi&&oi.after.toList.all (fun e=>!Region.binds .any e||decide (e.on<i))&&full.zipIdx.all fun (oj,j)=>!decide (i<j)||yk full ms bars fs i j oi oj)
theorem pz {fs:cF}{i j:Nat} (h:pn fs i j=true) {id:Nat} (hw:id∈lY fs i):¬NP fs j id∧id ∉ lY fs j:=by
 have ha:=DG hw
 unfold pn at h
 unfold lY at hw ⊢
 unfold NP
 cases hi:fP fs i with
 |none=>rw[hi]at hw;cases hw
 |some x =>
  obtain⟨r,w⟩:=x
  rw[hi]at hw h
  simp only at hw
  cases hj:fP fs j with
  |none=>exact⟨fun h=>h ha,by simp⟩
  |some y =>
   obtain⟨r',w'⟩:=y
   rw[hj]at h
   simp only[W7,Xn]at h
   have:=h.1 id hw
   simp only[W7,Bool.not_eq_true',List.contains_eq_mem,decide_eq_false_iff_not]at this
   exact this
theorem vr {fs:cF}{i j:Nat} (h:pn fs i j=true):pn fs j i=true:=by
 unfold pn at *
 cases hi:fP fs i with
 |none=>cases fP fs j <;> rfl
 |some x =>
  cases hj:fP fs j with
  |none=>rfl
  |some y =>
   obtain⟨r,w⟩:=x
   obtain⟨r',w'⟩:=y
   rw[hi,hj]at h
   simp only[W7,Xn,Bool.not_eq_true',List.contains_eq_mem,decide_eq_false_iff_not]at h ⊢
   exact⟨fun id dJ=>⟨h.2 id dJ,fun hw=>(h.1 id hw).2 dJ⟩,fun id dJ=>(h.1 id dJ).1⟩
theorem xy {P:Program}{c:Call}{e e':Nat→V}{s:List Obj}{K:V→List Obj→Prop} (h0:e 0=e' 0) (h:∀x∈c.operands,ev e x=ev e' x):gk P c e s K=gk P c e' s K:=by
 have iP:∀x∈c.args.toList,ev e x=ev e' x:=fun x hx=>h x (by simp [Call.operands];exact .inr (by simpa using hx))
 have hm:c.args.toList.map (ev e)=c.args.toList.map (ev e'):=XM iP
 unfold gk
 rw[hm]
 cases hc:c.callee with
 |value f =>
  have hf:ev e f=ev e' f:=h f (by simp [Call.operands,hc])
  cases f <;> simp only[hf,h0]
 |invoke r m=>rfl
 |builtin b =>
  cases b
  case len=>rcases hl:c.args.toList with _|⟨x,_|⟨y,l⟩⟩ <;> rcases ht:c.argTypes.toList with _|⟨t,_|⟨t',l'⟩⟩ <;> simp_all
  case append=>rcases hl:c.args.toList with _|⟨x,_|⟨y,_|⟨z,l⟩⟩⟩ <;> rcases ht:c.argTypes.toList with _|⟨t,_|⟨t',_|⟨Wc,l'⟩⟩⟩ <;> simp_all
  case copy=>rcases hl:c.args.toList with _|⟨x,_|⟨y,_|⟨z,l⟩⟩⟩ <;> rcases ht:c.argTypes.toList with _|⟨t,_|⟨t',_|⟨Wc,l'⟩⟩⟩ <;> simp_all
  case clear=>rcases hl:c.args.toList with _|⟨x,_|⟨y,l⟩⟩ <;> rcases ht:c.argTypes.toList with _|⟨t,_|⟨t',l'⟩⟩ <;> simp_all
  case min=>rcases hl:c.args.toList with _|⟨x,l⟩ <;> rw[hl]at iP <;> simp only[XM fun y hy=>iP y (List.mem_cons_of_mem _ hy),iP _ (List.mem_cons_self ..)]
  case max=>rcases hl:c.args.toList with _|⟨x,l⟩ <;> rw[hl]at iP <;> simp only[XM fun y hy=>iP y (List.mem_cons_of_mem _ hy),iP _ (List.mem_cons_self ..)]
  all_goals rfl
theorem FD {P:Program}{o:Oper}{e e':Nat→V}{s:List Obj}{K:V→List Obj→Prop} (h0:e 0=e' 0) (h:∀x∈o.op.operands,ev e x=ev e' x):da P o e s K=da P o e' s K:=by
 obtain⟨dst,op,ty,pos,after,guard⟩:=o
 have NC:∀ps:Array (Nat×Operand),(∀x∈ps.map (·.2),ev e x=ev e' x)→(ps.toList.map fun p=>(p.1,ev e p.2))=(ps.toList.map fun p=>(p.1,ev e' p.2)):=fun ps hp =>
  XM fun p hm=>by
   obtain⟨i,x⟩:=p
   simp only[hp x (Array.mem_map.2 ⟨(i,x),by simpa using hm,rfl⟩)]
 cases op <;> simp only[Op.operands]at h <;> simp only[da]
 case build t ps=>rw[NC ps fun x hx=>h x (by simpa using hx)]
 case buildSlice t n ps=>rw[NC ps fun x hx=>h x (by simpa using hx)]
 case makeFunc fn first captured =>
  rw[XM (l:=first.toList) fun x hx=>h x (by simp;exact .inl (by simpa using hx)),XM (l:=captured.toList) fun x hx=>h x (by simp;exact .inr (by simpa using hx))]
 case call c=>exact xy h0 h
 case slice t x lo hi mx=>cases lo <;> cases hi <;> cases mx <;> simp_all
 all_goals (first|rfl|(simp_all;done))
def ny (full:List Oper) (o:Oper) (e:Env):Env:=fun t=>if t∈o.looksAt full.toArray∨t=0 then e t else .any
theorem fE.mask {σ s w N e a} (h:fE σ s w N e a) (full:List Oper) (o:Oper):fE σ s w N (ny full o e) a :=
 ⟨h.1,h.2.1,fun t=>by unfold ny;split;exact h.2.2 t;exact .any⟩
theorem De {full:List Oper}{o:Oper}{e e':Env} (h0:e 0=e' 0) (h:∀t∈o.looksAt full.toArray,e t=e' t):ny full o e=ny full o e':=by
 funext t
 unfold ny
 split
 ·rename_i ht
  rcases ht with ht|rfl
  ·exact h t ht
  ·exact h0
 ·rfl
def Li (P:Program) (full:List Oper) (o:Oper) (e:Env) (s:List Obj) (v:V) (s1:List Obj):Prop :=
 ∀(σ:Gh) (w:World) (N:Nat) (a:Act),Inv σ s w→fE σ s w N (ny full o e) a→rB P o σ s w a fun v' s'=>v'=v∧s'=s1
def lx (P:Program) (o:Oper) (e:Env) (s:List Obj) (v:V) (s1:List Obj):Prop:=da P o e s fun v' s'=>v'=v∧s'=s1
theorem jn {P:Program}{full:List Oper}{o:Oper}{e:Env}{s:List Obj}{v:V}{s1:List Obj} (h:lx P o e s v s1):Li P full o e s v s1:=by
 intro σ w N a hI hR
 refine w5 hI hR ?_
 have:da P o e s (fun v' s'=>v'=v∧s'=s1)=da P o (ny full o e) s (fun v' s'=>v'=v∧s'=s1):=FD (by simp [ny]) fun x hx=>by
  cases x with
  |tmp t =>
   have ht:t∈o.looksAt full.toArray:=List.mem_append_left _ (List.mem_filterMap.2 ⟨.tmp t,by simpa using hx,rfl⟩)
   simp [ev,ny,ht]
  |_=>rfl
 rw[← this];exact h
structure AW where
 val:Option V
 tf:List Obj→List Obj
def lV (x:AW):V:=x.val.getD .un
def Ew (fs:cF) (k:Nat) (f:List Obj→List Obj):Prop :=
 ∀s,(f s).length=s.length∧(∀id,id ∉ lY fs k→(f s)[id]?=s[id]?)∧∀s',s'.length=s.length→∀id,id∈lY fs k→s'[id]?=s[id]?→(f s)[id]?=(f s')[id]?
def G2 (P:Program) (full:List Oper) (bars:List Nat) (fs:cF) (i:Nat) (o:Oper) (x:AW) (e:Env) (s:List Obj):Prop :=
 (bars.contains i=false→Ew fs i x.tf) ∧
 match x.val with
 |none=>(∀s,x.tf s=s)∧∃g want d,o.guard=some (g,want)∧jE full g=some d∧(e d=.d (.sc (.bool (!want)))∨e d=.un)
 |some v=>(∀g want,o.guard=some (g,want)→∃d,jE full g=some d∧e d=.d (.sc (.bool want))) ∧
   ∀s',s'.length=s.length→(bars.contains i=true→s'=s)→(∀id,NP fs i id→s'[id]?=s[id]?)→Li P full o e s' v (x.tf s')
def Trace (P:Program) (N:Nat) (full:List Oper) (bars:List Nat) (fs:cF):Nat→List Oper→List AW→Env→List Obj→Env→List Obj→Prop
 |_,[],[],e,s,e',s'=>e'=e∧s'=s
 |i,o::rest,x::tr,e,s,e',s'=>eg N o.dst∧G2 P full bars fs i o x e s∧Trace P N full bars fs (i+1) rest tr (gE e o.dst (lV x)) (x.tf s) e' s'
 |_,_,_,_,_,_,_=>False
def ef:List Oper→List AW→(Nat→Bool)→Nat→Env→Env
 |o::l,x::tr,L,k,e=>ef l tr L (k+1) (if L k then gE e o.dst (lV x) else e)
 |_,_,_,_,e=>e
theorem Ay {e:Env}{d:Nat}{v:V} (h:e d=v):bW e d v=e:=by
 funext t
 unfold bW
 split
 ·rename_i ht;subst ht;exact h.symm
 ·rfl
theorem lr:∀(l:List Oper) (tr:List AW) (L:Nat→Bool) (k:Nat) (e:Env),(∀j,k≤j→L j=false)→ef l tr L k e=e
 |[],_,_,_,_,_=>by simp [ef]
 |_::_,[],_,_,_,_=>by simp [ef]
 |o::l,x::tr,L,k,e,h=>by
  simp only[ef,h k (W4 _)]
  exact lr l tr L (k+1) e fun j hj=>h j (by omega)
theorem DC:∀(m:Nat) (l:List Oper) (tr:List AW) (k:Nat) (e:Env) (o:Oper) (x:AW),l[m]?=some o→tr[m]?=some x →
  ef l tr (fun j=>decide (j<k+m+1)) k e=gE (ef l tr (fun j=>decide (j<k+m)) k e) o.dst (lV x)
 |_,[],_,_,_,_,_,h,_=>by simp at h
 |_,_::_,[],_,_,_,_,_,h=>by simp at h
 |0,o'::l,x'::tr,k,e,o,x,h1,h2=>by
  simp only[W9,WX]at h1 h2
  subst h1;subst h2
  simp only[ef,Nat.add_zero,XP,decide_false,W2,if_false,show k<k+1 by omega,decide_true,if_true]
  rw[lr _ _ _ _ _ (fun j hj=>by simp;omega),lr _ _ _ _ _ (fun j hj=>by simp;omega)]
 |m+1,o'::l,x'::tr,k,e,o,x,h1,h2=>by
  have h3:decide (k<k+(m+1)+1)=true:=by simp;omega
  have h4:decide (k<k+(m+1))=true:=by simp
  simp only[ef,h3,h4,if_true]
  have:=DC m l tr (k+1) (gE e o'.dst (lV x')) o x (by simpa using h1) (by simpa using h2)
  rw[show k+(m+1)+1=k+1+m+1 by omega,show k+(m+1)=k+1+m by omega]
  exact this
theorem nt (e:Env) (d:Option Nat) (v:V) (t:Nat):gE e d v t=if d=some t then v else e t:=by
 cases d with
 |none=>simp [gE]
 |some d =>
  simp only[gE,bW,WX]
  by_cases h:t=d
  ·rw[if_pos h,if_pos h.symm]
  ·rw[if_neg h,if_neg (Ne.symm h)]
theorem iN (t:Nat):∀(l:List Oper) (tr:List AW) (L L':Nat→Bool) (k:Nat) (e e':Env),e t=e' t→(∀m o,l[m]?=some o→o.dst=some t→L (k+m)=L' (k+m)) →
  ef l tr L k e t=ef l tr L' k e' t
 |[],_,_,_,_,_,_,he,_=>by simpa [ef]using he
 |_::_,[],_,_,_,_,_,he,_=>by simpa [ef]using he
 |o::l,x::tr,L,L',k,e,e',he,h=>by
  simp only[ef]
  refine iN t l tr L L' (k+1) _ _ ?_ fun m o' nN hd=>by have:=h (m+1) o' (by simpa using nN) hd;simpa [XX,Nat.add_comm 1 m]using this
  by_cases hd:o.dst=some t
  ·have:=h 0 o rfl hd
   simp only[Nat.add_zero]at this
   rw[this]
   split
   ·rw[nt,nt,if_pos hd,if_pos hd]
   ·exact he
  ·have h1:∀(b:Bool) (f:Env),(if b=true then gE f o.dst (lV x) else f) t=f t:=fun b f=>by cases b <;> simp [nt,hd]
   rw[h1,h1]
   exact he
def fB:List AW→(Nat→Bool)→Nat→List Obj→List Obj
 |x::tr,L,k,s=>fB tr L (k+1) (if L k then x.tf s else s)
 |[],_,_,s=>s
theorem nO:∀(tr:List AW) (L:Nat→Bool) (k:Nat) (s:List Obj),(∀j,k≤j→L j=false)→fB tr L k s=s
 |[],_,_,_,_=>rfl
 |x::tr,L,k,s,h=>by
  simp only[fB]
  rw[nO tr L (k+1) _ fun j hj=>h j (by omega)]
  simp [h k (W4 _)]
theorem nZ:∀(tr:List AW) (L L':Nat→Bool) (k:Nat) (s:List Obj),(∀m,m<tr.length→L (k+m)=L' (k+m))→fB tr L k s=fB tr L' k s
 |[],_,_,_,_,_=>rfl
 |x::tr,L,L',k,s,h=>by
  simp only[fB]
  have h0:L k=L' k:=by have:=h 0 (by simp);simpa using this
  rw[h0]
  exact nZ tr L L' (k+1) _ fun m hm=>by
   have:=h (m+1) (by simpa using hm)
   rw[show k+(m+1)=k+1+m by omega]at this
   exact this
theorem F7:∀(m:Nat) (tr:List AW) (k:Nat) (s:List Obj) (x:AW),tr[m]?=some x →
  fB tr (fun j=>decide (j<k+m+1)) k s=x.tf (fB tr (fun j=>decide (j<k+m)) k s)
 |_,[],_,_,_,h=>by simp at h
 |0,x'::tr,k,s,x,h=>by
  simp only[W9,WX]at h
  subst h
  simp only[fB,Nat.add_zero,XP,decide_false,W2,if_false,show k<k+1 by omega,decide_true,if_true]
  rw[nO _ _ _ _ (fun j hj=>by simp;omega),nO _ _ _ _ (fun j hj=>by simp;omega)]
 |m+1,x'::tr,k,s,x,h=>by
  have h3:decide (k<k+(m+1)+1)=true:=by simp;omega
  have h4:decide (k<k+(m+1))=true:=by simp
  simp only[fB,h3,h4,if_true]
  have:=F7 m tr (k+1) (x'.tf s) x (by simpa using h)
  rw[show k+(m+1)+1=k+1+m+1 by omega,show k+(m+1)=k+1+m by omega]
  exact this
theorem oo {bars:List Nat}{fs:cF}{R:Nat→Prop}:∀(tr:List AW) (L L':Nat→Bool) (k:Nat) (s s':List Obj),
  (∀m x,tr[m]?=some x→bars.contains (k+m)=false→Ew fs (k+m) x.tf) →
  (∀m,m<tr.length→L (k+m)=L' (k+m)∧(bars.contains (k+m)=true→L (k+m)=true→s=s'∧∀m',m'<m→L (k+m')=L' (k+m'))∨(bars.contains (k+m)=false∧∀id,R id→id ∉ lY fs (k+m))) →
  s.length=s'.length→(∀id,R id→s[id]?=s'[id]?) →
  (fB tr L k s).length=(fB tr L' k s').length∧∀id,R id→(fB tr L k s)[id]?=(fB tr L' k s')[id]?
 |[],_,_,_,s,s',_,_,hl,h=>⟨hl,h⟩
 |x::tr,L,L',k,s,s',GC,hd,hl,h=>by
  simp only[fB]
  have R9:∀m y,tr[m]?=some y→bars.contains (k+1+m)=false→Ew fs (k+1+m) y.tf:=fun m y hy hb=>by
   have:=GC (m+1) y (by simpa using hy) (by rw[show k+(m+1)=k+1+m by omega];exact hb)
   rwa [show k+(m+1)=k+1+m by omega]at this
  have next:∀t t':List Obj,t.length=t'.length→(∀id,R id→t[id]?=t'[id]?)→(s=s'→L k=L' k→t=t') →
    (fB tr L (k+1) t).length=(fB tr L' (k+1) t').length∧∀id,R id→(fB tr L (k+1) t)[id]?=(fB tr L' (k+1) t')[id]?:=by
   intro t t' h1 h2 h3
   refine oo tr L L' (k+1) t t' R9 (fun m hm=>?_) h1 h2
   have:=hd (m+1) (by simpa using hm)
   rw[show k+(m+1)=k+1+m by omega]at this
   rcases this with ⟨g1,g2⟩|g
   ·refine .inl ⟨g1,fun hb VB=>?_⟩
    obtain⟨g3,g4⟩:=g2 hb VB
    have g0:=g4 0 (by omega)
    rw[Nat.add_zero]at g0
    exact⟨h3 g3 g0,fun m' nq=>by
     have:=g4 (m'+1) (by omega)
     rwa [show k+(m'+1)=k+1+m' by omega]at this⟩
   ·exact .inr g
  have d0:=hd 0 (by simp)
  rw[Nat.add_zero]at d0
  have QE:=GC 0 x rfl
  rw[Nat.add_zero]at QE
  cases hL:L k with
  |false =>
   cases Oc:L' k with
   |false =>
    simp only[W2,if_false]
    exact next s s' hl h fun h _=>h
   |true =>
    simp only[W2,if_false,if_true]
    rcases d0 with ⟨d0,_⟩|⟨d1,d2⟩
    ·rw[hL,Oc]at d0;cases d0
    ·obtain⟨f1,f2,_⟩:=QE d1 s'
     exact next s (x.tf s') (by rw[f1];exact hl) (fun id dJ=>by rw[f2 id (d2 id dJ)];exact h id dJ) fun _ h'=>by rw[hL,Oc]at h';cases h'
  |true =>
   cases Oc:L' k with
   |false =>
    simp only[W2,if_false,if_true]
    rcases d0 with ⟨d0,_⟩|⟨d1,d2⟩
    ·rw[hL,Oc]at d0;cases d0
    ·obtain⟨f1,f2,_⟩:=QE d1 s
     exact next (x.tf s) s' (by rw[f1];exact hl) (fun id dJ=>by rw[f2 id (d2 id dJ)];exact h id dJ) fun _ h'=>by rw[hL,Oc]at h';cases h'
   |true =>
    simp only[if_true]
    cases hb:bars.contains k with
    |true =>
     rcases d0 with ⟨_,d0⟩|⟨d1,_⟩
     ·obtain⟨rfl,_⟩:=d0 hb hL
      exact next _ _ rfl (fun _ _=>rfl) fun _ _=>rfl
     ·rw[hb]at d1;cases d1
    |false =>
     obtain⟨f1,f2,f3⟩:=QE hb s
     obtain⟨V4,VD,_⟩:=QE hb s'
     refine next _ _ (by rw[f1,V4];exact hl) (fun id dJ=>?_) fun h _=>by rw[h]
     by_cases hw:id∈lY fs k
     ·exact f3 s' hl.symm id hw (h id dJ).symm
     ·rw[f2 id hw,VD id hw];exact h id dJ
theorem Ct {P:Program}{N:Nat}{full:List Oper}{bars:List Nat}{fs:cF}:∀(l:List Oper) (tr:List AW) (i:Nat) (e:Env) (s:List Obj) (e':Env) (s':List Obj),Trace P N full bars fs i l tr e s e' s' →
  tr.length=l.length∧e'=ef l tr (fun _=>true) i e∧s'=fB tr (fun _=>true) i s ∧
  ∀(m:Nat) (o:Oper) (x:AW),l[m]?=some o→tr[m]?=some x→eg N o.dst∧G2 P full bars fs (i+m) o x (ef l tr (fun j=>decide (j<i+m)) i e) (fB tr (fun j=>decide (j<i+m)) i s)
 |[],[],i,e,s,e',s',h=>by
  obtain⟨rfl,rfl⟩:=h
  exact⟨rfl,by simp [ef],rfl,fun m o x h=>by simp at h⟩
 |[],_::_,_,_,_,_,_,h=>h.elim
 |_::_,[],_,_,_,_,_,h=>h.elim
 |o::l,x::tr,i,e,s,e',s',h=>by
  obtain⟨hd,hx,ht⟩:=h
  obtain⟨h0,h1,h2,h3⟩:=Ct l tr (i+1) _ _ e' s' ht
  refine⟨by simp [h0],by simp only[ef,if_true];exact h1,by simp only[fB,if_true];exact h2,fun m o1 x1 ho N2=>?_⟩
  cases m with
  |zero =>
   simp only[W9,WX]at ho N2
   subst ho;subst N2
   have e1:ef (o::l) (x::tr) (fun j=>decide (j<i+0)) i e=e:=lr _ _ _ _ _ fun j hj=>by simp;omega
   have e2:fB (x::tr) (fun j=>decide (j<i+0)) i s=s:=nO _ _ _ _ fun j hj=>by simp;omega
   rw[e1,e2]
   exact⟨hd,hx⟩
  |succ m =>
   have:=h3 m o1 x1 (by simpa using ho) (by simpa using N2)
   rw[show i+(m+1)=i+1+m by omega]
   have aS:decide (i<i+1+m)=true:=by simp;omega
   have e1:ef (o::l) (x::tr) (fun j=>decide (j<i+1+m)) i e=ef l tr (fun j=>decide (j<i+1+m)) (i+1) (gE e o.dst (lV x)):=by
    simp only[ef,aS,if_true]
   have e2:fB (x::tr) (fun j=>decide (j<i+1+m)) i s=fB tr (fun j=>decide (j<i+1+m)) (i+1) (x.tf s):=by
    simp only[fB,aS,if_true]
   rw[e1,e2]
   exact this
def rh (bA:Array Bool) (j:Nat):Bool:=bA.getD j false
def Pf (bA:Array Bool):Nat:=(bA.toList.filter (!·)).length
theorem LL {bA:Array Bool}{i:Nat} (h:bA.getD i true=false):Pf (bA.setIfInBounds i true)<Pf bA:=by
 have hi:i<bA.size:=by
  rcases Xw i bA.size with h'|h'
  ·exact h'
  ·simp [Array.getElem?_eq_none h']at h
 have hv:bA.toList[i]?=some false:=by
  rw[Xc]at h
  rw[XF]
  rw[Array.getElem?_eq_getElem hi]at h ⊢
  simpa using h
 unfold Pf
 rw[Array.toList_setIfInBounds]
 generalize bA.toList=l at hv
 clear h hi
 induction l generalizing i with
 |nil=>simp at hv
 |cons b l ih =>
  cases i with
  |zero =>
   simp only[W9,WX]at hv
   subst hv
   simp
  |succ i =>
   have:=ih (i:=i) (by simpa using hv)
   simp only[Xl,List.filter_cons]
   cases b
   ·simp only[W0,if_true,W3];omega
   ·simpa using this
theorem IS {bA:Array Bool} (h:Pf bA=0) {i:Nat} (hi:i<bA.size):bA.getD i false=true:=by
 unfold Pf at h
 rw[List.length_eq_zero_iff,List.filter_eq_nil_iff]at h
 have:=h bA[i] (by simp)
 simpa [Array.getD,hi]using this
section
variable {P:Program}{N:Nat}{full:List Oper}{bars:List Nat}{fs:cF}{tr:List AW}{e0:Env}{s0:List Obj}
theorem lE (hd:iG full bars fs=true) {i j:Nat}{oi oj:Oper} (hi:full[i]?=some oi) (hj:full[j]?=some oj) (PO:i<j):yk full (z9 full []) bars fs i j oi oj=true:=by
 simp only[iG,Xn]at hd
 have h1:=hd (oi,i) (by rw[List.mem_zipIdx_iff_getElem?];exact hi)
 simp only[W7,Xn]at h1
 have h2:=h1.2 (oj,j) (by rw[List.mem_zipIdx_iff_getElem?];exact hj)
 simpa [PO]using h2
theorem pw (hd:iG full bars fs=true) {i:Nat}{oi:Oper} (hi:full[i]?=some oi) {x:Edge} (hx:x∈oi.after) (hb:Region.binds .any x=true):x.on<i:=by
 simp only[iG,Xn]at hd
 have h1:=hd (oi,i) (by rw[List.mem_zipIdx_iff_getElem?];exact hi)
 simp only[W7,Xn]at h1
 have:=h1.1.2 x (by simpa using hx)
 simpa [hb]using this
theorem nf {L:Nat→Prop} (hL:jd full L) {i j:Nat} (h:Pn (z9 full []) i j=true) (hj:L j):L i :=
 xN hL full [] (by simp) (by simp) j i h hj
theorem yf (hd:iG full bars fs=true) {L:Nat→Bool} (hL:jd full fun j=>L j=true) {i:Nat}{oi:Oper} (hi:full[i]?=some oi) (wJ:L i=false)
  (hready:∀x∈oi.after.toList,Region.binds .any x=true→L x.on=true) {m:Nat}{om:Oper} (hm:full[m]?=some om) (gr:m≠i) :
  L m=decide (m<i)∨((om.apart full.toArray oi=true∧oi.apart full.toArray om=true)∧bars.contains m=false∧bars.contains i=false∧pn fs m i=true):=by
 have Oc:jd full fun j=>L j=true∨j=i:=by
  intro j o ho hj x hx hb
  rcases hj with hj|rfl
  ·exact .inl (hL j o ho hj x hx hb)
  ·rw[hi]at ho;cases ho;exact .inl (hready x hx hb)
 rcases Nat.lt_or_gt_of_ne gr with aS|Wf
 ·have hp:=lE hd hm hi aS
  simp only[yk,Bool.or_eq_true]at hp
  rcases hp with hp|hp
  ·rcases nf Oc hp (.inr rfl) with h|h
   ·exact .inl (by rw[h];simp [aS])
   ·exact absurd h gr
  ·simp only[W7,Bool.not_eq_true']at hp
   obtain⟨⟨⟨⟨a1,a2⟩,a3⟩,a4⟩,a5⟩:=hp
   exact .inr ⟨⟨a1,a2⟩,a3,a4,a5⟩
 ·have hp:=lE hd hi hm Wf
  simp only[yk,Bool.or_eq_true]at hp
  rcases hp with hp|hp
  ·cases En:L m with
   |false=>exact .inl (by simp;omega)
   |true=>have:=nf hL hp En;rw[wJ]at this;cases this
  ·simp only[W7,Bool.not_eq_true']at hp
   obtain⟨⟨⟨⟨a1,a2⟩,a3⟩,a4⟩,a5⟩:=hp
   exact .inr ⟨⟨a2,a1⟩,a4,a3,vr a5⟩
theorem sb (hd:iG full bars fs=true) {L:Nat→Bool} (hL:jd full fun j=>L j=true) {k m:Nat} (hk:bars.contains k=true) (RO:L k=true) (Vp:k<full.length) (hm:m<k):L m=true:=by
 have hp:=lE hd (WZ (by omega:m<full.length)) (WZ Vp) hm
 simp only[yk,Bool.or_eq_true]at hp
 rcases hp with hp|hp
 ·exact nf hL hp RO
 ·simp only[W7,Bool.not_eq_true']at hp
  rw[hk]at hp;exact absurd hp.1.2 (by simp)
theorem jd.add {L:Nat→Bool} (hL:jd full fun j=>L j=true) {i:Nat}{oi:Oper} (hi:full[i]?=some oi) (hready:∀x∈oi.after.toList,Region.binds .any x=true→L x.on=true) {L':Nat→Bool}
  (h':∀j,L' j=(L j||decide (j=i))):jd full fun j=>L' j=true:=by
 intro j o ho hj x hx hb
 have hj:L' j=true:=hj
 show L' x.on=true
 rw[h',Bool.or_eq_true]at hj ⊢
 rcases hj with hj|hj
 ·exact .inl (hL j o ho hj x hx hb)
 ·rw[decide_eq_true_eq]at hj;subst hj
  rw[hi]at ho;cases ho
  exact .inl (hready x hx hb)
theorem uF (hd:iG full bars fs=true) {L:Nat→Bool} (hL:jd full fun j=>L j=true) {i:Nat}{oi:Oper} (hi:full[i]?=some oi) (wJ:L i=false)
  (hready:∀x∈oi.after.toList,Region.binds .any x=true→L x.on=true) {t:Nat} (ht:t∈oi.looksAt full.toArray):ef full tr L 0 e0 t=ef full tr (fun j=>decide (j<0+i)) 0 e0 t:=by
 refine iN t full tr _ _ 0 _ _ rfl fun m om hm zv=>?_
 simp only[Xi]
 by_cases gr:m=i
 ·subst gr;simp [wJ]
 ·rcases yf hd hL hi wJ hready hm gr with h|⟨⟨h,_⟩,_⟩
  ·exact h
  ·exact absurd ht ((Oper.apart_spec h).1 t zv)
theorem I3 (hd:iG full bars fs=true) (L L':Nat→Bool):ef full tr L 0 e0 0=ef full tr L' 0 e0 0:=by
 refine iN 0 full tr _ _ 0 _ _ rfl fun m om hm zv=>?_
 unfold iG at hd
 have:=List.all_eq_true.1 hd (om,m) (List.mem_zipIdx_iff_getElem?.2 hm)
 simp [ND,zv]at this
theorem Mo (hd:iG full bars fs=true) {L:Nat→Bool} (hL:jd full fun j=>L j=true) {i:Nat}{oi:Oper} (hi:full[i]?=some oi) (wJ:L i=false)
  (hready:∀x∈oi.after.toList,Region.binds .any x=true→L x.on=true) {x:AW} (hx:tr[i]?=some x) {L':Nat→Bool} (h':∀j,L' j=(L j||decide (j=i))) :
  ef full tr L' 0 e0=gE (ef full tr L 0 e0) oi.dst (lV x):=by
 funext t
 by_cases Qg:oi.dst=some t
 ·rw[nt,if_pos Qg]
  have h1:ef full tr L' 0 e0 t=ef full tr (fun j=>decide (j<0+i+1)) 0 e0 t:=by
   refine iN t full tr _ _ 0 _ _ rfl fun m om hm zv=>?_
   simp only[Xi]
   rw[h']
   by_cases gr:m=i
   ·subst gr;simp
   ·rcases yf hd hL hi wJ hready hm gr with h|⟨⟨h,_⟩,_⟩
    ·rw[h];simp only[gr,decide_false,X7];rw[decide_eq_decide];omega
    ·exact absurd Qg ((Oper.apart_spec h).2.1 t zv)
  rw[h1,DC i full tr 0 e0 oi x hi hx,nt,if_pos Qg]
 ·rw[nt,if_neg Qg]
  refine iN t full tr _ _ 0 _ _ rfl fun m om hm zv=>?_
  simp only[Xi]
  rw[h']
  by_cases gr:m=i
  ·subst gr;rw[hi]at hm;cases hm;exact absurd zv Qg
  ·simp [gr]
theorem tR (hd:iG full bars fs=true) (hl:tr.length=full.length) (GC:∀m x,tr[m]?=some x→bars.contains m=false→Ew fs m x.tf) {L:Nat→Bool} (hL:jd full fun j=>L j=true) {i:Nat}{oi:Oper} (hi:full[i]?=some oi) (wJ:L i=false)
  (hready:∀x∈oi.after.toList,Region.binds .any x=true→L x.on=true) {R:Nat→Prop} (hR:∀m,bars.contains i=false→pn fs m i=true→∀id,R id→id ∉ lY fs m) :
  (fB tr L 0 s0).length=(fB tr (fun j=>decide (j<0+i)) 0 s0).length∧∀id,R id→(fB tr L 0 s0)[id]?=(fB tr (fun j=>decide (j<0+i)) 0 s0)[id]?:=by
 have Ug:i<full.length:=(List.getElem?_eq_some_iff.1 hi).1
 refine oo (bars:=bars) (fs:=fs) tr _ _ 0 s0 s0 (fun m x hx hb=>by rw[Xi]at hb ⊢;exact GC m x hx hb) (fun m hm=>?_) rfl fun _ _=>rfl
 simp only[Xi]
 have Ok:bars.contains m=true→L m=true→m<i→∀m',m'<m→L m'=decide (m'<i):=by
  intro hb En SR m' nq
  rw[sb hd hL hb En (by omega) nq];simp;omega
 by_cases gr:m=i
 ·subst gr
  exact .inl ⟨by simp [wJ],fun _ h=>by rw[wJ]at h;cases h⟩
 ·rcases yf hd hL hi wJ hready (WZ (by omega:m<full.length)) gr with h|⟨_,h1,h2,h3⟩
  ·exact .inl ⟨h,fun hb En=>⟨trivial,Ok hb En (by rw[En]at h;simpa using h.symm)⟩⟩
  ·exact .inr ⟨h1,hR m h2 h3⟩
theorem OF (hd:iG full bars fs=true) (hl:tr.length=full.length) (GC:∀m x,tr[m]?=some x→bars.contains m=false→Ew fs m x.tf) {L:Nat→Bool} (hL:jd full fun j=>L j=true) {i:Nat}{oi:Oper} (hi:full[i]?=some oi) (wJ:L i=false)
  (hready:∀x∈oi.after.toList,Region.binds .any x=true→L x.on=true) {x:AW} (hx:tr[i]?=some x) {L':Nat→Bool} (h':∀j,L' j=(L j||decide (j=i))) :
  fB tr L' 0 s0=x.tf (fB tr L 0 s0):=by
 have Ug:i<full.length:=(List.getElem?_eq_some_iff.1 hi).1
 have aS:=F7 i tr 0 s0 x hx
 rw[Xi]at aS
 have Ok:∀m,m<tr.length→bars.contains m=true→L m=true→m<i→∀m',m'<m→L m'=decide (m'<i):=by
  intro m hm hb En SR m' nq
  rw[sb hd hL hb En (by omega) nq];simp;omega
 by_cases hb:bars.contains i=true
 ·
  have fM:∀m,m<tr.length→L m=decide (m<i):=by
   intro m hm
   by_cases gr:m=i
   ·subst gr;simp [wJ]
   ·rcases yf hd hL hi wJ hready (WZ (by omega:m<full.length)) gr with h|⟨_,_,h2,_⟩
    ·exact h
    ·rw[hb]at h2;cases h2
  rw[nZ tr L (fun j=>decide (j<i)) 0 s0 fun m hm=>by rw[Xi];exact fM m hm,← aS]
  refine nZ tr _ _ 0 s0 fun m hm=>?_
  rw[Xi,h',fM m hm]
  by_cases gr:m=i
  ·subst gr;simp
  ·simp only[gr,decide_false,X7];rw[decide_eq_decide];omega
 ·have hb:bars.contains i=false:=by simpa using hb
  obtain⟨f1,f2,f3⟩:=GC i x hx hb (fB tr L 0 s0)
  -- off TL i writes: nothing is new
  have So:=oo (bars:=bars) (fs:=fs) (R:=fun id=>id ∉ lY fs i) tr L' L 0 s0 s0 (fun m y hy hb=>by rw[Xi]at hb ⊢;exact GC m y hy hb) (fun m hm=>by
    simp only[Xi]
    by_cases gr:m=i
    ·subst gr;exact .inr ⟨hb,fun id dJ=>dJ⟩
    ·have e1:L' m=L m:=by rw[h'];simp [gr]
     refine .inl ⟨e1,fun PL En=>⟨trivial,fun m' nq=>?_⟩⟩
     rw[e1]at En
     have:=sb hd hL PL En (by omega) nq
     rw[h',this];rfl) rfl fun _ _=>rfl
  -- on TL i writes: as in II S7 order
  have VG:=oo (bars:=bars) (fs:=fs) (R:=fun id=>id∈lY fs i) tr L' (fun j=>decide (j<i+1)) 0 s0 s0 (fun m y hy hb=>by rw[Xi]at hb ⊢;exact GC m y hy hb) (fun m hm=>by
    simp only[Xi]
    by_cases gr:m=i
    ·subst gr
     refine .inl ⟨by rw[h'];simp,fun PL _=>by rw[hb]at PL;cases PL⟩
    ·have e1:L' m=L m:=by rw[h'];simp [gr]
     rcases yf hd hL hi wJ hready (WZ (by omega:m<full.length)) gr with h|⟨_,h1,_,h3⟩
     ·refine .inl ⟨by rw[e1,h,decide_eq_decide];omega,fun PL En=>⟨trivial,fun m' nq=>?_⟩⟩
      rw[e1]at En
      have SR:m<i:=by rw[En]at h;simpa using h.symm
      rw[h',Ok m hm PL En SR m' nq]
      simp only[show m'≠i by omega,decide_false,X7];rw[decide_eq_decide];omega
     ·exact .inr ⟨h1,fun id dJ=>(pz (vr h3) dJ).2⟩) rfl fun _ _=>rfl
  refine List.ext_getElem? fun id=>?_
  by_cases hw:id∈lY fs i
  ·have:=tR (s0:=s0) hd hl GC hL hi wJ hready (R:=fun id=>id∈lY fs i) (fun m _ hc id dJ hm=>(pz hc hm).2 dJ)
   rw[Xi]at this
   rw[VG.2 id hw,aS,f3 _ this.1.symm id hw (this.2 id hw).symm]
  ·rw[So.2 id hw,f2 id hw]
theorem Cz {σ:Gh}{s:List Obj}{w:World}{e:Env}{a:Act}{o:Oper}{g:Nat}{want:Bool}{d:Nat} (hR:fE σ s w N e a) (ho:o.guard=some (g,want)) (hg:jE full g=some d) :
  (e d=.d (.sc (.bool want))→Region.wanted o (yielded full.toArray a.tmps)=true)∧(e d=.d (.sc (.bool (!want)))∨e d=.un→Region.wanted o (yielded full.toArray a.tmps)=false):=by
 constructor
 ·intro h
  have hw:jr (jE full g) e want (fun _=>True) (fun _=>False):=by
   rw[hg];simp [jr,h]
  obtain⟨_,_,h|h⟩:=rQ hR ho hw
  ·exact h.1
  ·exact h.2.elim
 ·intro h
  have hw:jr (jE full g) e want (fun _=>False) (fun _=>True):=by
   rw[hg]
   rcases h with h|h <;> simp [jr,h]
  obtain⟨_,_,h|h⟩:=rQ hR ho hw
  ·exact h.2.elim
  ·exact h.1
theorem Ia (hd:iG full bars fs=true) {e1:Env}{s1:List Obj} (ht:Trace P N full bars fs 0 full tr e0 s0 e1 s1)
  {RG:Gh}{Rw:List Obj}{RF:World}{Q:Exit→Env→List Obj→Prop} (hQ:Q .normal e1 s1):∀(fuel:Nat) (bA:Array Bool) (σ:Gh) (w:World) (a:Act),bA.size=full.length→Pf bA≤fuel →
  (jd full fun j=>rh bA j=true)→aY RG Rw RF σ (fB tr (rh bA) 0 s0) w→Inv σ (fB tr (rh bA) 0 s0) w→fE σ (fB tr (rh bA) 0 s0) w N (ef full tr (rh bA) 0 e0) a →
  wpAny P .any full.toArray (QX RG Rw RF N Q) fuel bA a w:=by
 intro fuel
 obtain⟨hl,t1,t2,t3⟩:=Ct full tr 0 e0 s0 e1 s1 ht
 have GC:∀m x,tr[m]?=some x→bars.contains m=false→Ew fs m x.tf:=by
  intro m x hx hb
  have hm:m<full.length:=by have:=(List.getElem?_eq_some_iff.1 hx).1;omega
  have:=(t3 m full[m] x (WZ hm) hx).2.1
  rw[Xi]at this
  exact this hb
 -- when nothing is ready all is bA
 have Bg:∀bA:Array Bool,bA.size=full.length→Region.ready .any full.toArray bA=[]→∀j,j<full.length→rh bA j=true:=by
  intro bA iB hr j
  induction j using Nat.strongRecOn with
  |_ j ih =>
   intro hj
   cases Uo:rh bA j with
   |true=>rfl
   |false =>
    exfalso
    have:j∈Region.ready .any full.toArray bA:=by
     rw[mem_ready]
     refine⟨?_,full[j],by simp [hj],fun x hx hb=>?_⟩
     ·unfold rh at Uo
      have:j<bA.size:=by omega
      simpa [Array.getD,this]using Uo
     ·exact ih x.on (pw hd (WZ hj) hx hb) (by
       have:=pw hd (WZ hj) hx hb;omega)
    rw[hr]at this
    cases this
 have fin:∀(bA:Array Bool) (σ:Gh) (w:World) (a:Act),(∀j,j<full.length→rh bA j=true)→aY RG Rw RF σ (fB tr (rh bA) 0 s0) w→Inv σ (fB tr (rh bA) 0 s0) w →
   fE σ (fB tr (rh bA) 0 s0) w N (ef full tr (rh bA) 0 e0) a→QX RG Rw RF N Q .normal a w:=by
  intro bA σ w a fM hE hI hR
  have he:ef full tr (rh bA) 0 e0=e1:=by
   rw[t1]
   funext t
   refine iN t full tr _ _ 0 _ _ rfl fun m om hm _=>?_
   rw[Xi]
   exact fM m (List.getElem?_eq_some_iff.1 hm).1
  have hs:fB tr (rh bA) 0 s0=s1:=by
   rw[t2]
   refine nZ tr _ _ 0 _ fun m hm=>?_
   rw[Xi]
   exact fM m (by omega)
  rw[he,hs]at hR
  rw[hs]at hE hI
  exact⟨e1,σ,s1,hE,hI,hR,hQ⟩
 have Ck:∀bA:Array Bool,(∀j,j<full.length→rh bA j=true)→Region.ready .any full.toArray bA=[]:=by
  intro bA fM
  rw[List.eq_nil_iff_forall_not_mem]
  intro j hj
  rw[mem_ready]at hj
  obtain⟨h0,o,ho,_⟩:=hj
  have S0:j<full.length:=by simpa using (Array.getElem?_eq_some_iff.1 ho).1
  have:=fM j S0
  unfold rh at this
  rw[Xc]at this h0
  cases hx:bA[j]? with
  |none=>rw[hx]at h0;cases h0
  |some b=>rw[hx]at this h0;simp only[Option.getD_some]at this h0;rw[this]at h0;cases h0
 induction fuel with
 |zero =>
  intro bA σ w a iB hu hL hE hI hR
  have fM:∀j,j<full.length→rh bA j=true:=fun j hj=>IS (by omega) (by omega)
  exact⟨Ck bA fM,fin bA σ w a fM hE hI hR⟩
 |succ fuel ih =>
  intro bA σ w a iB hu hL hE hI hR
  refine⟨fun hr=>fin bA σ w a (Bg bA iB hr) hE hI hR,fun i Ua=>?_⟩
  rw[mem_ready]at Ua
  obtain⟨h0,o,ho,OA⟩:=Ua
  have Ug:i<full.length:=by simpa using (Array.getElem?_eq_some_iff.1 ho).1
  have Lv:full[i]?=some o:=by simpa using ho
  have wJ:rh bA i=false:=by
   unfold rh
   have:i<bA.size:=by omega
   simp only[Array.getD,this,dif_pos]at h0 ⊢
   exact h0
  have hready:∀x∈o.after.toList,Region.binds .any x=true→rh bA x.on=true:=fun x hx hb=>OA x (by simpa using hx) hb
  have hx:∃x,tr[i]?=some x:=⟨tr[i],WZ (by omega)⟩
  obtain⟨x,hx⟩:=hx
  have h':∀j,rh (bA.setIfInBounds i true) j=(rh bA j||decide (j=i)):=by
   intro j
   unfold rh
   by_cases RY:j=i
   ·subst RY
    have:j<bA.size:=by omega
    simp [this]
   ·rw[getD_set_ne false (Ne.symm RY)];simp [RY]
  have Nu:=ih (bA.setIfInBounds i true)
  have UO:=Mo (tr:=tr) (e0:=e0) hd hL Lv wJ hready hx h'
  have Q7:=OF (s0:=s0) hd hl GC hL Lv wJ hready hx h'
  have cK:=jd.add hL Lv hready h'
  have WB:=LL h0
  obtain⟨zv,_,PC⟩:=t3 i o x Lv hx
  unfold wpOp
  rw[ho]
  simp only
  cases hv:x.val with
  |none =>
   rw[hv]at PC
   obtain⟨aW,g,want,d,hg,O9,tX⟩:=PC
   have IJ:d∈o.looksAt full.toArray:=by
    unfold jE at O9
    split at O9
    ·rename_i og Pb
     simp [Oper.looksAt,hg,Pb,O9]
    ·cases O9
   rw[← uF (tr:=tr) (e0:=e0) hd hL Lv wJ hready IJ]at tX
   rw[(Cz hR hg O9).2 tX]
   simp only[W2,if_false]
   rw[aW]at Q7
   refine Nu σ w _ (by simpa using iB) (by omega) cK (by rw[Q7];exact hE) (by rw[Q7];exact hI) ?_
   rw[Q7,UO]
   have:lV x=.un:=by simp [lV,hv]
   rw[this]
   exact hR.put zv .un
  |some v =>
   rw[hv]at PC
   obtain⟨O9,Lj⟩:=PC
   have P9:Region.wanted o (yielded full.toArray a.tmps)=true:=by
    cases hg:o.guard with
    |none=>simp [Region.wanted,hg]
    |some gw =>
     obtain⟨g,want⟩:=gw
     obtain⟨d,tX,Ur⟩:=O9 g want hg
     have IJ:d∈o.looksAt full.toArray:=by
      unfold jE at tX
      split at tX
      ·rename_i og Pb
       simp [Oper.looksAt,hg,Pb,tX]
      ·cases tX
     rw[← uF (tr:=tr) (e0:=e0) hd hL Lv wJ hready IJ]at Ur
     exact(Cz hR hg tX).1 Ur
   rw[if_pos P9]
   have Rk:Li P full o (ef full tr (rh bA) 0 e0) (fB tr (rh bA) 0 s0) v (fB tr (rh (bA.setIfInBounds i true)) 0 s0):=by
    have hm:ny full o (ef full tr (rh bA) 0 e0)=ny full o (ef full tr (fun j=>decide (j<0+i)) 0 e0):=De (I3 hd _ _) fun t ht=>uF hd hL Lv wJ hready ht
    unfold Li
    rw[hm,Q7]
    refine Lj _ ?_ ?_ ?_
    ·exact(tR (s0:=s0) hd hl GC hL Lv wJ hready (R:=fun _=>False) (fun _ _ _ _ h=>h.elim)).1
    ·intro hb
     rw[Xi]at hb
     have:=tR (s0:=s0) hd hl GC hL Lv wJ hready (R:=fun _=>True) (fun _ h=>by rw[hb]at h;cases h)
     exact List.ext_getElem? fun id=>this.2 id trivial
    ·intro id dJ
     rw[Xi]at dJ
     exact(tR (s0:=s0) hd hl GC hL Lv wJ hready (R:=fun id=>NP fs i id) (fun m _ hc id dJ hw=>(pz hc hw).1 dJ)).2 id dJ
   refine .inl (Oper.wp_mono (fun a' w' ⟨u,v',σ',s',ha,x5,jN,rl,hK⟩=>?_) (Oper.Gd (Rk σ w N a hI (hR.mask full o))))
   obtain⟨rfl,rfl⟩:=hK
   subst ha
   refine Nu σ' w' _ (by simpa using iB) (by omega) cK (hE.trans x5) jN ?_
   rw[UO]
   have:lV x=v':=by simp [lV,hv]
   rw[this]
   exact(hR.bS x5).put zv rl
theorem CP (hm:P.follows .mixedOrders=true) (hd:iG full bars fs=true) {e:Env}{s:List Obj}{e1:Env}{s1:List Obj} (ht:Trace P N full bars fs 0 full tr e s e1 s1) {K:Env→List Obj→Prop} (hK:K e1 s1):uB P N full e s K:=by
 intro σ0 Rw w0 Q Sx σ w a id hE hI hR
 refine wp_region_any hm ?_
 have hf:∀j,rh (Array.replicate full.toArray.size false) j=false:=by
  intro j
  unfold rh
  rw[Xc,Array.getElem?_replicate]
  split <;> rfl
 have hs:fB tr (rh (Array.replicate full.toArray.size false)) 0 s=s:=nO _ _ _ _ fun j _=>hf j
 have he:ef full tr (rh (Array.replicate full.toArray.size false)) 0 e=e:=lr _ _ _ _ _ fun j _=>hf j
 refine Ia hd ht (Sx e1 s1 hK) _ _ σ _ a (by simp) ?_ (fun j o _ hj=>by have hj:rh _ j=true:=hj;rw[hf j]at hj;cases hj) ?_ ?_ ?_
 ·unfold Pf
  refine X8 (List.length_filter_le _ _) (by simp)
 ·rw[hs];exact hE.trans (sE hI).1
 ·rw[hs];exact(sE hI).2
 ·rw[hs,he];exact hR.bS (sE hI).1
end
def iF (X:(V→Prop)→Prop):Prop:=∀K,X K→∃v,X (fun v'=>v'=v)∧K v
def nr (X:(V→List Obj→Prop)→Prop):Prop:=∀K,X K→∃v s,X (fun v' s'=>v'=v∧s'=s)∧K v s
theorem qp {agg n cs}:iF (mD agg n cs):=by
 intro K h
 unfold mD at *
 cases agg with
 |true=>exact⟨_,⟨h.1,rfl⟩,h.2⟩
 |false =>
  cases cs with
  |nil=>exact h.2.elim
  |cons v l=>exact⟨v,⟨h.1,rfl⟩,h.2⟩
theorem j0 {s id g}{F:Obj→(V→Prop)→Prop} (hF:∀o,iF (F o)):iF fun K=>qZ s id g fun o=>F o K:=by
 intro K h
 unfold qZ at *
 cases hs:s[id]? with
 |none=>rw[hs]at h;exact h.elim
 |some o =>
  simp only[hs]at h ⊢
  obtain⟨v,h1,h2⟩:=hF o K h.2
  exact⟨v,⟨h.1,h1⟩,h2⟩
theorem xU {s id g}{F:Obj→(V→List Obj→Prop)→Prop} (hF:∀o,nr (F o)):nr fun K=>qZ s id g fun o=>F o K:=by
 intro K h
 unfold qZ at *
 cases hs:s[id]? with
 |none=>rw[hs]at h;exact h.elim
 |some o =>
  simp only[hs]at h ⊢
  obtain⟨v,s1,h1,h2⟩:=hF o K h.2
  exact⟨v,s1,⟨h.1,h1⟩,h2⟩
theorem bz {v:V}:iF fun K=>K v:=fun _ h=>⟨v,rfl,h⟩
theorem aN:iF fun _=>False:=fun _ h=>h.elim
theorem bR {c:Prop}{X:(V→Prop)→Prop} (h:iF X):iF fun K=>c∧X K:=fun K hk =>
 let ⟨v,h1,h2⟩:=h K hk.2
 ⟨v,⟨hk.1,h1⟩,h2⟩
theorem dd {v:V}{s:List Obj}:nr fun K=>K v s:=fun _ h=>⟨v,s,⟨rfl,rfl⟩,h⟩
theorem bg:nr fun _=>False:=fun _ h=>h.elim
theorem cH {c:Prop}{X:(V→List Obj→Prop)→Prop} (h:nr X):nr fun K=>c∧X K:=fun K hk =>
 let ⟨v,s,h1,h2⟩:=h K hk.2
 ⟨v,s,⟨hk.1,h1⟩,h2⟩
theorem fp {X:(V→Prop)→Prop}{s:List Obj} (h:iF X):nr fun K=>X fun v=>K v s:=by
 intro K hk
 obtain⟨v,h1,h2⟩:=h _ hk
 refine⟨v,s,?_,h2⟩
 simpa using h1
theorem EL {P t s p}:iF (jv P t s p):=by
 unfold jv
 cases cA P t with
 |none=>exact aN
 |some i =>
  simp only
  cases p with
  |d x =>
   cases x with
   |el cs=>exact qp
   |_=>exact aN
  |rf id g k off =>
   simp only
   cases s[id]? with
   |none=>exact aN
   |some o =>
    simp only
    cases o.aV[k]? with
    |none=>exact bR aN
    |some cs=>exact bR qp
  |pp id g k off b a =>
   simp only
   cases s[id]? with
   |none=>exact aN
   |some o =>
    simp only
    cases o.aV[k]? with
    |none=>exact bR aN
    |some cs=>exact bR qp
  |bx v=>exact qp
  |_=>exact aN
theorem vO {P t s p f}:iF (ez P t s p f):=by
 unfold ez
 cases bd P t f with
 |none=>exact aN
 |some i =>
  simp only
  split
  ·exact bz
  ·exact j0 fun _=>bz
  ·exact j0 fun _=>bz
  ·exact bz
  ·exact aN
theorem GM {aV i z}:iF (Nr aV i z):=by
 unfold Nr
 cases aV[i]? with
 |none=>exact aN
 |some cs=>exact bR bz
theorem vW {P t s x i}:iF (dF P t s x i):=by
 unfold dF
 split
 ·split
  ·split
   ·exact bR (bR GM)
   ·exact bR (bR GM)
   ·exact j0 fun _=>bR (bR (bR bz))
   ·exact aN
  ·split
   ·split
    ·exact bR (bR bz)
    ·exact j0 fun _=>bR (bR bz)
    ·exact aN
   ·exact aN
 ·exact aN
theorem ya {P t cs off}:iF (pH P t cs off):=by
 unfold pH
 cases cA P t with
 |none=>exact aN
 |some i =>
  simp only
  cases i.agg with
  |true=>exact bR bz
  |false =>
   simp only
   cases cs[off]? with
   |none=>exact aN
   |some v=>exact bz
theorem DH {P t x f}:iF (jU P t x f):=by
 unfold jU
 split
 ·split
  ·split
   ·exact ya
   ·exact aN
  ·exact aN
 ·exact aN
theorem Cs {P t x i}:iF (iz P t x i):=by
 unfold iz
 split
 ·split
  ·split
   ·split
    ·exact bR (bR ya)
    ·exact aN
   ·exact aN
  ·exact aN
 ·exact aN
theorem CN {P t parts}:iF (m9 P t parts):=by
 unfold m9
 split
 ·exact aN
 ·split
  ·split
   ·exact bz
   ·exact aN
  ·split
   ·split
    ·exact bz
    ·exact aN
   ·exact aN
theorem Dc {P t s}:nr (m5 P t s):=by
 unfold m5
 split
 ·exact bg
 ·exact dd
theorem Hj {s x}:nr (vz s x):=by
 unfold vz
 split
 ·exact bg
 ·exact dd
theorem tZ {P t len parts s}:nr (eT P t len parts s):=by
 unfold eT
 split
 ·exact bg
 ·refine cH ?_
  split
  ·exact bg
  ·split
   ·exact dd
   ·exact dd
theorem vV {P t l c s}:nr (fw P t l c s):=by
 unfold fw
 split
 ·exact bg
 ·split
  ·exact cH dd
  ·exact bg
theorem Bj {P t a x s}:nr (dG P t a x s):=by
 unfold dG
 split
 ·exact bg
 ·split
  ·exact bg
  ·refine cH ?_
   split
   ·split
    ·exact cH dd
    ·exact cH dd
   ·exact xU fun _=>cH dd
   ·exact bg
theorem y0 {P t x lo hi mx}:iF (jM P t x lo hi mx):=by
 unfold jM
 split
 ·exact aN
 ·split
  ·exact bR bz
  ·exact aN
theorem Cv {P t x lo hi mx s}:iF (jh P t x lo hi mx s):=by
 unfold jh
 split
 ·exact y0
 ·split
  ·exact aN
  ·split
   ·refine bR ?_
    split
    ·exact bR bz
    ·exact bR bz
    ·exact bR (bR (bR bz))
    ·refine j0 fun _=>bR ?_
     split
     ·exact bz
     ·exact bz
    ·exact aN
   ·exact aN
theorem Hd {P t x s}:iF (js P t x s):=by
 unfold js
 split
 ·split
  ·exact bz
  ·exact bz
  ·exact j0 fun _=>bz
  ·exact aN
 ·split
  ·exact bz
  ·exact aN
 ·exact aN
theorem Iu {op k a b}:iF (eK op k a b):=by
 unfold eK
 split <;> first|exact bz|exact bR bz|exact aN|(split <;> first|exact bz|exact bR bz|exact aN)
theorem Dq {P op t xs ys}:iF (gS P op t xs ys):=by
 unfold gS
 split
 ·refine bR ?_
  split <;> first|exact bz|exact aN
 ·refine bR ?_
  split <;> first|exact bz|exact aN
 ·exact aN
theorem Eu {P op t s x y}:iF (dy P op t s x y):=by
 unfold dy
 split <;> first|exact Dq|exact bR Iu|exact aN|(refine bR ?_;split <;> first|exact bz|exact aN)|(refine bR (bR ?_);split <;> first|exact bz|exact aN)|(split <;> first|exact bz|exact aN)
theorem ID {P op t s x y}:iF (mM P op t s x y):=by
 unfold mM
 split
 ·unfold oP
  split
  ·exact bR bz
  ·exact aN
 ·exact Eu
theorem DF {P op t x}:iF (gf P op t x):=by
 unfold gf
 refine bR (bR ?_)
 split <;> first|exact bz|exact aN
theorem Jy {op x}:iF (vX op x):=by
 unfold vX
 split <;> first|exact bz|exact aN
theorem FI {P a b x}:iF (nm P a b x):=by
 unfold nm
 split
 ·split <;> first|exact bz|exact aN
 ·exact aN
theorem ou {mn}:∀(ys:List V) (acc:V),iF (eQ mn acc ys)
 |[],acc=>bz
 |y::ys,acc=>by
  intro K h
  unfold eQ at h
  split at h
  ·obtain⟨v,h1,h2⟩:=ou ys _ K h
   exact⟨v,by unfold eQ;exact h1,h2⟩
  ·exact h.elim
theorem H4 {s x}:iF (ic s x):=by
 unfold ic
 split
 ·exact bz
 ·exact j0 fun _=>bz
 ·exact j0 fun _=>bz
 ·exact bz
 ·exact bz
 ·exact aN
theorem Hl {x i}:iF (sx x i):=by
 unfold sx
 split
 ·split
  ·exact bz
  ·exact aN
 ·exact aN
theorem Du {x a b s}:nr fun K=>fN x (K a s) (K b s):=by
 unfold fN
 split
 ·rename_i b'
  cases b' with
  |true=>intro K h;exact⟨a,s,by simp,h.1 rfl⟩
  |false=>intro K h;exact⟨b,s,by simp,h.2 rfl⟩
 ·exact bg
theorem CE {P t s p x}:nr fun K=>fW P t s p x fun s'=>K .un s':=by
 unfold fW
 split
 ·exact bg
 ·split
  ·split
   ·exact bg
   ·refine cH (cH ?_)
    split
    ·exact bg
    ·split
     ·exact bg
     ·exact cH (cH dd)
  ·split
   ·exact bg
   ·refine cH (cH ?_)
    split
    ·exact bg
    ·split
     ·exact bg
     ·exact cH (cH dd)
  ·exact bg
theorem Fi {P t a x s}:nr (pg P t a x s):=by
 unfold pg
 split
 ·exact bg
 ·split
  ·exact bg
  ·refine cH ?_
   split
   ·unfold qZ
    split
    ·exact bg
    ·exact cH (cH dd)
   ·exact bg
theorem Dy {P t x s}:nr (kU P t x s):=by
 unfold kU
 split
 ·exact bg
 ·split
  ·unfold qZ
   split
   ·exact bg
   ·exact cH (cH dd)
  ·exact dd
  ·exact bg
theorem Cy {P t s m k}:iF (ki P t s m k):=by
 unfold ki
 split
 ·exact aN
 ·split
  ·split
   ·refine j0 fun _=>bR ?_
    split
    ·exact aN
    ·exact bz
   ·exact aN
  ·exact aN
theorem Fb {P t s m k x}:nr fun K=>uP P t s m k x fun s'=>K .un s':=by
 unfold uP
 split
 ·exact bg
 ·split
  ·split
   ·split
    ·refine xU fun _=>cH ?_
     split
     ·exact bg
     ·exact cH dd
    ·exact bg
   ·exact bg
  ·exact bg
theorem Bu {P t s m k}:iF (gJ P t s m k):=by
 unfold gJ
 split
 ·exact Cy
 ·split
  ·split
   ·refine j0 fun _=>bR ?_
    split
    ·exact aN
    ·exact bz
   ·exact aN
  ·exact aN
theorem Ai {P t s m k x}:nr fun K=>rv P t s m k x fun s'=>K .un s':=by
 unfold rv
 split
 ·exact Fb
 ·split
  ·split
   ·split
    ·refine xU fun _=>cH ?_
     split
     ·exact bg
     ·exact cH dd
    ·exact bg
   ·exact bg
  ·exact bg
theorem zu {P t r s}:nr (lj P t r s):=cH dd
def EU (o:Oper):Bool :=
 match o.op with
 |.call c=>match c.callee with
  |.value _=>true
  |_=>false
 |_=>false
theorem FR {P o e s} (hc:EU o=false):nr (da P o e s):=by
 obtain⟨dst,op,ty,pos,after,guard⟩:=o
 unfold da
 cases op <;> simp only
 case move=>exact dd
 case assign=>exact dd
 case pick=>exact Du
 case alloc=>exact Dc
 case box=>exact Hj
 case build=>exact fp CN
 case buildSlice=>exact tZ
 case load=>exact fp EL
 case store=>exact CE
 case nilCheck=>exact fp H4
 case binOp op t x y t' =>
  cases KC y with
  |true=>exact fp DF
  |false=>exact fp ID
 case unOp=>exact fp Jy
 case convert=>exact fp FI
 case makeFunc=>exact dd
 case makeSlice=>exact vV
 case slice=>exact fp Cv
 case fieldAddr=>exact fp vO
 case field=>exact fp DH
 case indexAddr=>exact fp vW
 case index=>exact fp Cs
 case extract=>exact fp Hl
 case makeMap=>exact zu
 case lookup t x i ok =>
  cases ok with
  |true=>exact bg
  |false=>exact fp Bu
 case mapUpdate=>exact Ai
 case insert=>exact Ai
 case call c =>
  unfold gk
  simp only[EU]at hc
  split
  ·rename_i h;rw[h]at hc;cases hc
  ·rename_i h;rw[h]at hc;cases hc
  ·split
   ·exact fp Hd
   ·exact cH Bj
   ·exact cH Fi
   ·exact Dy
   ·exact fp (ou _ _)
   ·exact fp (ou _ _)
   ·exact bg
  ·exact bg
 all_goals exact bg
def fk:V→List Nat
 |.rf id _ _ _=>[id]
 |.pp id _ _ _ _ _=>[id]
 |.so id _ _ _=>[id]
 |.mp id _=>[id]
 |_=>[]
def n8 (e:Env) (o:Oper):List Nat :=
 match o.op with
 |.move _|.assign _|.pick ..|.build ..|.buildSlice ..|.makeFunc ..=>[]
 |.load _ a=>fk (rG (e 0) (ev e a))
 |_=>o.op.operands.toList.flatMap fun x=>fk (ev e x)
def H9 (o:Oper):Bool :=
 match o.op with
 |.move _|.assign _|.pick ..|.build ..|.buildSlice ..|.load ..|.nilCheck _|.binOp ..|.unOp ..|.convert ..|.makeFunc ..|.slice ..|.fieldAddr ..|.field ..|.indexAddr ..|.index ..|.extract ..|.lookup ..=>true
 |.call c=>match c.callee with
  |.builtin .len=>true
  |.builtin .min=>true
  |.builtin .max=>true
  |.builtin .append=>true
  |_=>false
 |_=>false
section
variable {P:Program}{s s':List Obj}
theorem fm {id g:Nat} (h:s'[id]?=s[id]?) (K:Obj→Prop):qZ s id g K=qZ s' id g K:=by
 unfold qZ;rw[h]
theorem A6 {t:TypeId}{p:V} (h:∀id∈fk p,s'[id]?=s[id]?) (K:V→Prop):jv P t s p K=jv P t s' p K:=by
 unfold jv
 cases cA P t with
 |none=>rfl
 |some i =>
  cases p with
  |rf id g k off=>simp only[h id (by simp [fk])]
  |pp id g k off b a=>simp only[h id (by simp [fk])]
  |d x=>cases x <;> rfl
  |_=>rfl
theorem tp {t:TypeId}{p:V}{f:Nat} (h:∀id∈fk p,s'[id]?=s[id]?) (K:V→Prop):ez P t s p f K=ez P t s' p f K:=by
 unfold ez
 cases bd P t f with
 |none=>rfl
 |some d =>
  cases p with
  |rf id g k off=>simp only[fm (h id (by simp [fk]))]
  |pp id g k off b a=>simp only[fm (h id (by simp [fk]))]
  |d x=>simp only;split <;> first|rfl|(rename_i he;cases he)
  |_=>rfl
theorem sL {t:TypeId}{p i:V} (h:∀id∈fk p,s'[id]?=s[id]?) (K:V→Prop):dF P t s p i K=dF P t s' p i K:=by
 unfold dF
 split
 ·split
  ·cases p with
   |so id g lo n=>simp only[fm (h id (by simp [fk]))]
   |d x=>cases x <;> rfl
   |_=>rfl
  ·split
   ·cases p with
    |rf id g k off=>simp only[fm (h id (by simp [fk]))]
    |d x=>cases x <;> rfl
    |_=>rfl
   ·rfl
 ·rfl
theorem CV {t:TypeId}{p:V} (h:∀id∈fk p,s'[id]?=s[id]?) (K:V→Prop):js P t p s K=js P t p s' K:=by
 unfold js
 split
 ·cases p with
  |so id g lo n=>simp only[fm (h id (by simp [fk]))]
  |d x=>cases x <;> rfl
  |_=>rfl
 ·rfl
 ·rfl
theorem yY {t:TypeId}{p k:V} (h:∀id∈fk p,s'[id]?=s[id]?) (K:V→Prop):ki P t s p k K=ki P t s' p k K:=by
 unfold ki
 cases uV P t with
 |none=>rfl
 |some ik =>
  cases p with
  |mp id g=>simp only[fm (h id (by simp [fk]))]
  |_=>rfl
theorem xO {t:TypeId}{p k:V} (h:∀id∈fk p,s'[id]?=s[id]?) (K:V→Prop):gJ P t s p k K=gJ P t s' p k K:=by
 unfold gJ
 cases AE P t with
 |none=>exact yY h K
 |some ik =>
  cases p with
  |mp id g=>simp only[fm (h id (by simp [fk]))]
  |_=>rfl
theorem Dw {p:V} (h:∀id∈fk p,s'[id]?=s[id]?) (K:V→Prop):ic s p K=ic s' p K:=by
 cases p with
 |rf id g k off=>simp only[ic,fm (h id (by simp [fk]))]
 |pp id g k off b a=>simp only[ic,fm (h id (by simp [fk]))]
 |d x=>unfold ic;split <;> first|rfl|(rename_i he;cases he)
 |cl f a b=>cases f <;> rfl
 |_=>rfl
theorem xF {p:V} (h:∀id∈fk p,s'[id]?=s[id]?):iS s p=iS s' p:=by
 unfold iS
 cases p with
 |so id g lo n=>simp only[h id (by simp [fk])]
 |d x=>cases x <;> rfl
 |_=>rfl
theorem zo {t:TypeId}{p:V}{lo hi mx:Option V} (h:∀id∈fk p,s'[id]?=s[id]?) (K:V→Prop):jh P t p lo hi mx s K=jh P t p lo hi mx s' K:=by
 unfold jh
 rw[xF h]
 split
 ·rfl
 ·split
  ·rfl
  ·split
   ·congr 1
    cases mx with
    |none =>
     cases p with
     |so id g lo n=>simp only[fm (h id (by simp [fk]))]
     |d x=>cases x <;> rfl
     |_=>rfl
    |some m =>
     cases p with
     |d x=>cases x <;> rfl
     |_=>rfl
   ·rfl
theorem ve {p:V} (h:∀id∈fk p,s'[id]?=s[id]?):my s p=my s' p:=by
 unfold my
 cases p with
 |rf id g k off=>simp only[fm (h id (by simp [fk]))]
 |pp id g k off b a=>simp only[fm (h id (by simp [fk]))]
 |d x=>cases x <;> rfl
 |_=>rfl
theorem BC {op:BinOp}{t:TypeId}{x y:V} (h:∀id∈fk x,s'[id]?=s[id]?) (h':∀id∈fk y,s'[id]?=s[id]?) (K:V→Prop):dy P op t s x y K=dy P op t s' x y K:=by
 unfold dy
 split <;> simp only[ve h,ve h']
theorem CJ {op:BinOp}{t:TypeId}{x y:V} (h:∀id∈fk x,s'[id]?=s[id]?) (h':∀id∈fk y,s'[id]?=s[id]?) (K:V→Prop):mM P op t s x y K=mM P op t s' x y K:=by
 unfold mM
 split
 ·rfl
 ·exact BC h h' K
theorem O0 {s:List Obj}{id:Nat}{o n:Obj} (ho:s[id]?=some o) (hn:n.g≠o.g):s.set id n≠s:=by
 intro h
 have h1:=XK (a:=n) (List.getElem?_eq_some_iff.1 ho).1
 rw[h,ho]at h1
 cases h1
 exact hn rfl
theorem B9 {t:TypeId}{a x v:V} (h:∀id∈fk a,s'[id]?=s[id]?) (h':∀id∈fk x,s'[id]?=s[id]?) (hw:dG P t a x s fun v' s1=>v'=v∧s1=s):dG P t a x s' fun v' s1=>v'=v∧s1=s':=by
 unfold dG at hw ⊢
 rw[xF h']at hw
 split at hw
 ·exact hw.elim
 rename_i i hi
 split at hw
 ·exact hw.elim
 rename_i ns yX
 refine⟨hw.1,?_⟩
 have hw:=hw.2
 split at hw
 ·split at hw
  ·exact⟨hw.1,hw.2.1,rfl⟩
  ·exact absurd (congrArg List.length hw.2.2) (by simp)
 ·exfalso
  obtain⟨o,ho,hg,⟨_,_,hs⟩⟩:=eD hw
  exact O0 ho (by simp only;omega) hs
 ·exact hw.elim
theorem DW {o:Oper}{e:Env}{v:V} (hr:H9 o=true) (h:∀id∈n8 e o,s'[id]?=s[id]?) (hw:da P o e s fun v' s1=>v'=v∧s1=s):da P o e s' fun v' s1=>v'=v∧s1=s':=by
 obtain⟨dst,op,ty,pos,after,guard⟩:=o
 have rd:(n8 e ⟨dst,op,ty,pos,after,guard⟩=op.operands.toList.flatMap fun x=>fk (ev e x))→∀x∈op.operands.toList,∀id∈fk (ev e x),s'[id]?=s[id]?:=fun he x hx id dJ=>h id (by rw[he];exact List.mem_flatMap.2 ⟨x,hx,dJ⟩)
 unfold da at hw ⊢
 cases op <;> simp only[H9,W2]at hr <;> simp only at hw ⊢
 case move=>exact hw
 case assign=>exact hw
 case pick=>simpa using hw
 case build=>exact hw
 case buildSlice =>
  unfold eT at hw ⊢
  split at hw
  ·exact hw.elim
  ·refine⟨hw.1,?_⟩
   have hw:=hw.2
   split at hw
   ·exact hw.elim
   ·split at hw
    ·exact⟨hw.1,rfl⟩
    ·exact absurd (congrArg List.length hw.2) (by simp)
 case load t a=>rw[A6 (fun id dJ=>h id (by simpa [n8]using dJ))]at hw;exact hw
 case nilCheck a=>rw[Dw (rd rfl a (by simp [Op.operands]))]at hw;exact hw
 case binOp op t x y t' =>
  cases hn:KC y with
  |true=>rw[hn]at hw;simpa using hw
  |false=>rw[hn]at hw;simp only[cond_false]at hw ⊢;rw[CJ (rd rfl x (by simp [Op.operands])) (rd rfl y (by simp [Op.operands]))]at hw;exact hw
 case unOp=>exact hw
 case convert=>exact hw
 case makeFunc=>exact hw
 case slice t x lo hi mx=>rw[zo (rd rfl x (by simp [Op.operands]))]at hw;exact hw
 case fieldAddr t x f=>rw[tp (rd rfl x (by simp [Op.operands]))]at hw;exact hw
 case field=>exact hw
 case indexAddr t x i=>rw[sL (rd rfl x (by simp [Op.operands]))]at hw;exact hw
 case index=>exact hw
 case extract=>exact hw
 case lookup t x i ok =>
  cases ok with
  |true=>exact hw.elim
  |false=>simp only[cond_false]at hw ⊢;rw[xO (rd rfl x (by simp [Op.operands]))]at hw;exact hw
 case call c =>
  obtain⟨callee,args,argTypes⟩:=c
  cases callee with
  |value f=>cases hr
  |invoke r m=>cases hr
  |builtin b =>
   unfold gk at hw ⊢
   simp only at hw ⊢ hr
   split at hw
   ·rename_i x t ha ht
    rw[CV (rd rfl x (by simp [Op.operands,Call.operands,ha]))]at hw
    exact hw
   ·rename_i a x t t' ha ht
    exact⟨hw.1,B9 (rd rfl a (by simp [Op.operands,Call.operands,ha])) (rd rfl x (by simp [Op.operands,Call.operands,ha])) hw.2⟩
   ·first|(cases hr;done)|(simp at hr;done)
   ·first|(cases hr;done)|(simp at hr;done)
   ·exact hw
   ·exact hw
   ·exact hw.elim
end
def bf (s:List Obj) (id:Nat):List Obj :=
 match s[id]? with
 |some o=>s.set id { o with live:=false }
 |none=>s
def aM (s:List Obj):List Nat→List Obj
 |[]=>s
 |id::ids=>aM (bf s id) ids
theorem nP {s:List Obj}{id jz:Nat}{o:Obj} (h:(bf s id)[jz]?=some o):∃o',s[jz]?=some o'∧o.g=o'.g∧o.sz=o'.sz∧o.aV=o'.aV∧(o.live=true→o'.live=true):=by
 unfold bf at h
 split at h
 ·rename_i o0 PK
  rw[List.getElem?_set]at h
  split at h
  ·rename_i he
   subst he
   split at h
   ·simp only[WX]at h;subst h;exact⟨o0,PK,rfl,rfl,rfl,fun h=>by cases h⟩
   ·cases h
  ·exact⟨o,h,rfl,rfl,rfl,fun h=>h⟩
 ·exact⟨o,h,rfl,rfl,rfl,fun h=>h⟩
theorem K3 {s:List Obj}{id jz:Nat}{o:Obj} (h:s[jz]?=some o):∃o',(bf s id)[jz]?=some o'∧o'.g=o.g∧o'.sz=o.sz:=by
 unfold bf
 split
 ·rename_i o0 PK
  rw[List.getElem?_set]
  split
  ·rename_i he
   subst he
   rw[PK]at h;cases h
   rw[if_pos (List.getElem?_eq_some_iff.1 PK).1]
   exact⟨_,rfl,rfl,rfl⟩
  ·exact⟨o,h,rfl,rfl⟩
 ·exact⟨o,h,rfl,rfl⟩
theorem IU {σ:Gh}{s:List Obj}{w:World} (hI:Inv σ s w) (id:Nat):aY σ s w σ (bf s id) w∧Inv σ (bf s id) w:=by
 have own:∀b,Own σ (bf s id) b→Own σ s b:=by
  rintro b (h|⟨jz,o,base,h1,h2,h3⟩)
  ·exact .inl h
  ·obtain⟨o',k1,_,_,_,k5⟩:=nP h1
   exact .inr ⟨jz,o',base,k1,k5 h2,h3⟩
 have hE:aY σ s w σ (bf s id) w:=⟨rfl,rfl,rfl,W4 _,fun _ _ _=>rfl,fun _ arr _ _ h=>⟨arr,h,rfl⟩,fun _ _ h=>h,fun b h=>.inl (own b h),
  fun jz o ho=>let ⟨o',k1,k2,k3⟩:=K3 (id:=id) ho;⟨o',k1,by omega,fun _=>⟨k3,rfl⟩⟩,rfl,fun _ _ _=>rfl⟩
 refine⟨hE,⟨fun jz o ho=>?_,fun i i' o o' b base cg h1 h2 h3 h4 h5=>?_,hI.low,fun i o b base h1 h2=>?_⟩⟩
 ·obtain⟨o',k1,_,k3,k4,_⟩:=nP ho
  rw[k4,k3]
  rcases hI.content jz o' k1 with h|⟨b,base,arr,E,h1,h2,h3,h4,h5⟩
  ·exact .inl (h.congr k4)
  ·exact .inr ⟨b,base,arr,E,h1,h2,h3,h4,fun i j x hx=>let ⟨u,g1,g2,g3⟩:=h5 i j x hx;⟨u,g1,g2,g3.bS hE⟩⟩
 ·obtain⟨p,k1,_,_,_,k5⟩:=nP h1
  obtain⟨p',l1,_⟩:=nP h2
  exact hI.inj i i' p p' b base cg k1 l1 (k5 h3) h4 h5
 ·obtain⟨p,k1,_⟩:=nP h1
  exact hI.apart i p b base k1 h2
theorem sJ {σ:Gh}{w:World}:∀(ids:List Nat) (s:List Obj),Inv σ s w→aY σ s w σ (aM s ids) w∧Inv σ (aM s ids) w
 |[],s,hI=>⟨aY.refl _ _ _,hI⟩
 |id::ids,s,hI=>by
  obtain⟨h1,h2⟩:=IU hI id
  obtain⟨k1,k2⟩:=sJ ids (bf s id) h2
  exact⟨h1.trans k1,k2⟩
theorem aO {P:Program}{f:FuncId}{args cargs:List V}{s:List Obj}{K:V→List Obj→Prop} (ids:List Nat) (hc:aR.go (aM s ids).length (aM s ids) args=some cargs) (h:av P f cargs (aM s ids) K):av P f args s K:=by
 refine⟨h.1,fun σ w vals hI hl hv=>?_⟩
 obtain⟨hE,jN⟩:=sJ ids s hI
 obtain⟨k1,k2⟩:=oz hc
 refine(h.2 σ w vals jN (by omega) fun i x hx=>?_).mono fun e w' ⟨u,v,σ',s',h1,h2,h3,h4,h5⟩=>⟨u,v,σ',s',h1,hE.trans h2,h3,h4,h5⟩
 obtain⟨y,hy,hf⟩:=k2 i x hx
 have:=lb jN ((hv i y hy).bS hE) hf
 rwa [XA]at this
def ni (cE:Nat) (s:List Obj) (x:V):V:=(aR cE s x).getD .any
theorem DB {σ:Gh}{s:List Obj}{w:World} (hI:Inv σ s w) {cE:Nat}{x:V}{u:Value} (hr:aI σ s w x u):aI σ (s.take cE) w (ni cE s x) u:=by
 unfold ni
 cases h:aR cE s x with
 |none=>exact .any
 |some y=>exact lb hI hr h
theorem ks {cE:Nat}:∀{l:List V},(∀(i:Nat) (x:V),l[i]?=some x→ao cE x=true)→ao.go cE l=true
 |[],_=>rfl
 |v::vs,h=>by
  simp only[ao.go,W7]
  exact⟨h 0 v rfl,ks fun i x hx=>h (i+1) x (by simpa using hx)⟩
theorem fL {s:List Obj}{id:Nat}{o:Obj} (h:s[id]?=some o):id<s.length:=(List.getElem?_eq_some_iff.1 h).1
theorem aI.OQ {σ:Gh}{s:List Obj}{w:World}{x:V}{u:Value} (h:aI σ s w x u):ao s.length x=true:=by
 induction h with
 |d hx=>rfl
 |ag h1 h2 _ ih=>exact ks ih
 |tu h1 _ ih=>exact ks ih
 |fu hx=>rfl
 |so o ho hg hu hk=>exact decide_eq_true (fL ho)
 |rf o ho hg hu hk=>exact decide_eq_true (fL ho)
 |pp o ho hg hk=>exact decide_eq_true (fL ho)
 |mp o ho hg hu hk=>exact decide_eq_true (fL ho)
 |bx h1 h2 h3 hu _ ih=>exact ih
 |cl h1 _ h3 _ wK fR =>
  simp only[ao,W7]
  exact⟨ks wK,ks fR⟩
 |un=>rfl
 |any=>rfl
theorem aI.O3 {σ σ':Gh}{s s':List Obj}{w:World}{n:Nat} (gN:∀b,Own σ' s' b→Own σ s b)
  (hobj:∀id o,id<n→s[id]?=some o→∃o',s'[id]?=some o'∧o.g≤o'.g∧(o'.g=o.g→o'.sz=o.sz∧σ' id=σ id)) {x:V}{u:Value} (hr:aI σ s w x u) (h:ao n x=true):aI σ' s' w x u:=by
 induction hr with
 |d hx=>exact .d (hx.own gN)
 |ag h1 h2 _ ih=>exact .ag h1 h2 fun i x hx=>ih i x hx (dx (by simpa only[ao]using h) i x hx)
 |tu h1 _ ih=>exact .tu h1 fun i x hx=>ih i x hx (dx (by simpa only[ao]using h) i x hx)
 |fu hx=>exact .fu (hx.own gN)
 |so o ho hg hu hk =>
  simp only[ao,decide_eq_true_eq]at h
  obtain⟨o',h1,h2,h3⟩:=hobj _ o h ho
  refine .so o' h1 (X8 hg h2) hu fun he=>?_
  have e:o'.g=o.g:=by omega
  have:=hk (by omega)
  unfold y6 at this ⊢
  rw[(h3 e).1,(h3 e).2]
  exact this
 |rf o ho hg hu hk =>
  simp only[ao,decide_eq_true_eq]at h
  obtain⟨o',h1,h2,h3⟩:=hobj _ o h ho
  refine .rf o' h1 (X8 hg h2) hu fun he=>?_
  have e:o'.g=o.g:=by omega
  rw[(h3 e).1,(h3 e).2]
  exact hk (by omega)
 |pp o ho hg hk =>
  simp only[ao,decide_eq_true_eq]at h
  obtain⟨o',h1,h2,h3⟩:=hobj _ o h ho
  refine .pp o' h1 (X8 hg h2) fun he=>?_
  have e:o'.g=o.g:=by omega
  rw[(h3 e).1,(h3 e).2]
  exact hk (by omega)
 |mp o ho hg hu hk =>
  simp only[ao,decide_eq_true_eq]at h
  obtain⟨o',h1,h2,h3⟩:=hobj _ o h ho
  refine .mp o' h1 (X8 hg h2) hu fun he=>?_
  have e:o'.g=o.g:=by omega
  rw[(h3 e).2]
  exact hk (by omega)
 |bx h1 h2 h3 hu _ ih=>exact .bx h1 h2 (fun h'=>h3 (gN _ h')) hu (ih (by simpa only[ao]using h))
 |cl h1 _ h3 _ wK fR =>
  simp only[ao,W7]at h
  exact .cl h1 (fun i x hx=>wK i x hx (dx h.1 i x hx)) h3 (fun i x hx=>fR i x hx (dx h.2 i x hx))
 |un=>exact .un
 |any=>exact .any
def vh (σ:Gh) (h n:Nat):Gh:=⟨fun k=>if k=h then σ n else if n≤k then none else σ k,σ.base⟩
theorem Ab {σ0 σ1:Gh}{s:List Obj}{w0 w1:World}{o ob:Obj}{h:Nat} (RI:Inv σ0 s w0) (hE:aY σ0 s w0 σ1 (s++[o]) w1) (hI:Inv σ1 (s++[o]) w1) (hh:s[h]?=some ob) (RR:o.live=true)
  (hd:∀(i j:Nat) (x:V),(o.aV[i]?.bind (·[j]?))=some x→ao 0 x=true) :
  aY σ0 s w0 (vh σ1 h s.length) (s.set h ⟨ob.g+1,true,o.sz,o.aV⟩) w1∧Inv (vh σ1 h s.length) (s.set h ⟨ob.g+1,true,o.sz,o.aV⟩) w1 ∧
   ∀lo n u,aI σ1 (s++[o]) w1 (.so s.length o.g lo n) u→aI (vh σ1 h s.length) (s.set h ⟨ob.g+1,true,o.sz,o.aV⟩) w1 (.so h (ob.g+1) lo n) u:=by
 have aS:=fL hh
 have vk:(s.set h ⟨ob.g+1,true,o.sz,o.aV⟩)[h]?=some ⟨ob.g+1,true,o.sz,o.aV⟩:=by simp [aS]
 have kA:∀k,k≠h→(s.set h (⟨ob.g+1,true,o.sz,o.aV⟩:Obj))[k]?=s[k]?:=fun k hk=>by rw[XZ (fun e=>hk e.symm)]
 have lq:(s++[o])[s.length]?=some o:=by simp
 have hold:∀k ok,s[k]?=some ok→(s++[o])[k]?=some ok:=fun k ok hk=>by rw[Xg (fL hk)];exact hk
 have gh:vh σ1 h s.length h=σ1 s.length:=if_pos rfl
 have go:∀k ok,k≠h→s[k]?=some ok→vh σ1 h s.length k=σ1 k:=fun k ok hk hs=>by
  show (if k=h then _ else if s.length≤k then _ else _)=_
  rw[if_neg hk,if_neg (by have:=fL hs;omega)]
 have gN:∀b,Own (vh σ1 h s.length) (s.set h ⟨ob.g+1,true,o.sz,o.aV⟩) b→Own σ1 (s++[o]) b:=by
  rintro b (hb|⟨k,ok,base,h1,h2,h3⟩)
  ·exact .inl hb
  ·by_cases hk:k=h
   ·subst hk
    rw[gh]at h3
    exact .inr ⟨s.length,o,base,lq,RR,h3⟩
   ·rw[kA k hk]at h1
    rw[go k ok hk h1]at h3
    exact .inr ⟨k,ok,base,hold k ok h1,h2,h3⟩
 have hobj:∀id o1,id<s.length→(s++[o])[id]?=some o1→∃o',(s.set h ⟨ob.g+1,true,o.sz,o.aV⟩)[id]?=some o'∧o1.g≤o'.g∧(o'.g=o1.g→o'.sz=o1.sz∧vh σ1 h s.length id=σ1 id):=by
  intro id o1 dJ h1
  rw[Xg dJ]at h1
  by_cases hk:id=h
  ·subst hk
   rw[hh]at h1;cases h1
   exact⟨_,vk,Nat.le_succ _,fun he=>by simp at he⟩
  ·exact⟨o1,by rw[kA id hk];exact h1,W4 _,fun _=>⟨rfl,go id o1 hk h1⟩⟩
 have V2:aY σ0 s w0 (vh σ1 h s.length) (s.set h ⟨ob.g+1,true,o.sz,o.aV⟩) w1:=by
  refine⟨hE.os,hE.tape,hE.output,hE.size,hE.cb,hE.shape,hE.pD,fun b hb=>hE.own b (gN b hb),fun id o1 h1=>?_,hE.base,hE.ga⟩
  obtain⟨o2,k1,k2,k3⟩:=hE.au id o1 h1
  have dJ:=fL h1
  obtain⟨o3,j1,j2,j3⟩:=hobj id o2 dJ k1
  exact⟨o3,j1,X8 k2 j2,fun he=>⟨(j3 (by omega)).1.trans (k3 (by omega)).1,(j3 (by omega)).2.trans (k3 (by omega)).2⟩⟩
 have hrefs:∀(id:Nat) (o1:Obj),s[id]?=some o1→∀(i j:Nat) (x:V),(o1.aV[i]?.bind (·[j]?))=some x→ao s.length x=true:=by
  intro id o1 h1 i j x hx
  rcases RI.content id o1 h1 with (⟨_,he⟩|⟨b,es,c,_,_,he⟩)|⟨b,base,arr,E,_,_,_,_,h5⟩
  ·rw[he]at hx;simp at hx
  ·rw[he]at hx
   unfold jQ at hx
   rw[Xd]at hx
   cases Ec:es.toList[i]? with
   |none=>rw[Ec]at hx;cases hx
   |some y =>
    rw[Ec]at hx
    simp only[XE,XH]at hx
    match j with
    |0=>simp at hx;subst hx;rfl
    |1=>simp at hx;subst hx;rfl
    |j+2=>simp at hx
  ·obtain⟨u,_,_,h6⟩:=h5 i j x hx
   exact h6.OQ
 refine⟨V2,⟨?_,?_,hI.low,?_⟩,?_⟩
 ·intro id o1 h1
  by_cases hk:id=h
  ·subst hk
   rw[vk]at h1;cases h1
   rw[gh]
   rcases hI.content _ _ lq with hb|⟨b,base,arr,E,k1,k2,k3,k4,k5⟩
   ·exact .inl (hb.congr rfl)
   ·refine .inr ⟨b,base,arr,E,k1,k2,k3,k4,fun i j x hx=>?_⟩
    obtain⟨u,j1,j2,j3⟩:=k5 i j x hx
    exact⟨u,j1,j2,j3.move (hd i j x hx) gN⟩
  ·rw[kA id hk]at h1
   rw[go id o1 hk h1]
   rcases hI.content _ _ (hold id o1 h1) with hb|⟨b,base,arr,E,k1,k2,k3,k4,k5⟩
   ·exact .inl hb
   ·refine .inr ⟨b,base,arr,E,k1,k2,k3,k4,fun i j x hx=>?_⟩
    obtain⟨u,j1,j2,j3⟩:=k5 i j x hx
    exact⟨u,j1,j2,aI.O3 gN hobj j3 (hrefs id o1 h1 i j x hx)⟩
 ·intro k k' o1 o2 b base cg h1 h2 h3 h4 h5
  by_cases hk:k=h <;> by_cases sr:k'=h
  ·rw[hk,sr]
  ·subst hk
   rw[gh]at h4
   rw[kA k' sr]at h2
   rw[go k' o2 sr h2]at h5
   have:=hI.inj _ _ _ _ _ _ _ lq (hold k' o2 h2) RR h4 h5
   have:=fL h2
   omega
  ·subst sr
   rw[gh]at h5
   rw[kA k hk]at h1
   rw[go k o1 hk h1]at h4
   have:=hI.inj _ _ _ _ _ _ _ (hold k o1 h1) lq h3 h4 h5
   have:=fL h1
   omega
  ·rw[kA k hk]at h1
   rw[kA k' sr]at h2
   rw[go k o1 hk h1]at h4
   rw[go k' o2 sr h2]at h5
   exact hI.inj _ _ _ _ _ _ _ (hold k o1 h1) (hold k' o2 h2) h3 h4 h5
 ·intro k o1 b base h1 h2
  by_cases hk:k=h
  ·subst hk
   rw[gh]at h2
   exact hI.apart _ _ _ _ lq h2
  ·rw[kA k hk]at h1
   rw[go k o1 hk h1]at h2
   exact hI.apart _ _ _ _ (hold k o1 h1) h2
 ·intro lo n u hu
  cases hu with|so o1 h1 h2 h3 h4=>?_
  rw[lq]at h1;cases h1
  refine .so _ vk (W4 _) h3 fun _=>?_
  have:=h4 rfl
  unfold y6 at this ⊢
  rw[gh]
  exact this
def jC (o:Oper) (e:Env):Option (Option (FuncId×List V)) :=
 match o.op with
 |.call c=>match c.callee with
  |.value (.func f)=>some (some (f,c.args.toList.map (ev e)))
  |.value x=>match zr (e 0) (ev e x) with
   |.cl (.func g) first ak=>some (some (g,first++c.args.toList.map (ev e)++ak))
   |_=>some none
  |.invoke ..=>some none
  |.builtin _=>none
 |_=>none
theorem yi {P:Program}{o:Oper}{e:Env}{f:FuncId}{args:List V} (h:jC o e=some (some (f,args))) (s:List Obj) (K:V→List Obj→Prop):da P o e s K=av P f args s K:=by
 obtain⟨dst,op,ty,pos,after,guard⟩:=o
 cases op <;> try (simp [jC]at h;done)
 rename_i c
 obtain⟨callee,cargs,argTypes⟩:=c
 cases callee with
 |value x =>
  cases x with
  |func g=>simp only[jC,WX,Xs]at h;obtain⟨rfl,rfl⟩:=h;rfl
  |tmp t =>
   simp only[jC]at h
   split at h
   ·rename_i g first ak cK
    simp only[WX,Xs]at h;obtain⟨rfl,rfl⟩:=h
    simp only[da,gk,cK]
   ·cases h
  |const t =>
   simp only[jC]at h
   split at h
   ·rename_i g first ak cK
    simp only[WX,Xs]at h;obtain⟨rfl,rfl⟩:=h
    simp only[da,gk,cK]
   ·cases h
  |global t =>
   simp only[jC]at h
   split at h
   ·rename_i g first ak cK
    simp only[WX,Xs]at h;obtain⟨rfl,rfl⟩:=h
    simp only[da,gk,cK]
   ·cases h
 |invoke r m=>simp [jC]at h
 |builtin b=>simp [jC]at h
theorem sk {o:Oper}{e:Env} (h:jC o e=none):EU o=false:=by
 obtain⟨dst,op,ty,pos,after,guard⟩:=o
 cases op <;> try rfl
 rename_i c
 obtain⟨callee,cargs,argTypes⟩:=c
 cases callee with
 |value x =>
  cases x with
  |func g=>simp [jC]at h
  |tmp t=>simp only[jC]at h;split at h <;> cases h
  |const t=>simp only[jC]at h;split at h <;> cases h
  |global t=>simp only[jC]at h;split at h <;> cases h
 |invoke r m=>rfl
 |builtin b=>rfl
def NJ (P:Program) (f:FuncId) (args:List V) (s:List Obj) (K:V→List Obj→Prop):Prop:=∃v,(∀s',av P f args s' fun v' Ar=>v'=v∧Ar=s')∧K v s
def NN (P:Program) (f:FuncId) (args:List V) (s:List Obj) (K:V→List Obj→Prop):Prop:=∃v s1,(av P f args s fun v' Ar=>v'=v∧Ar=s1)∧K v s1
def mq (P:Program) (rd wr:List Nat) (f:FuncId) (args:List V) (s:List Obj) (K:V→List Obj→Prop):Prop :=
 ∃v os,os.length=wr.length∧(∀s',s'.length=s.length→(∀id∈rd,s'[id]?=s[id]?)→av P f args s' fun v' Ar=>v'=v∧Ar=aZ s' wr os)∧K v (aZ s wr os)
def BM:V→Bool
 |.d (.sl _)=>true
 |.fu _=>true
 |_=>false
theorem Et {x:V} (h:BM x=true) (s s':List Obj):iS s' x=iS s x:=by
 unfold BM at h
 split at h
 ·rfl
 ·rfl
 ·cases h
def PY (P:Program) (t t':TypeId) (aV:List (List D)) (x:V) (ob:Obj) (h:Nat) (s:List Obj) (K:V→List Obj→Prop):Prop :=
 match x,kN P t with
 |.fu ns,some (_,i)=>(t=t'∧0<ns.length∧0<i.sz∧0<i.F2∧(aV.length+ns.length)*i.F2≤140737488355328∧(∀e∈aV,e.length=i.sz)∧∀e∈ns,e.length=i.sz) ∧
   K (.so h (ob.g+1) 0 (aV.length+ns.length)) (s.set h ⟨ob.g+1,true,i.sz,(aV++ns).map (·.map .d)⟩)
 |_,_=>False
def QM (P:Program) (t:TypeId) (l c:V) (ob:Obj) (h:Nat) (s:List Obj) (K:V→List Obj→Prop):Prop :=
 match l,c,kN P t with
 |.d (.sc (.int _ n)),.d (.sc (.int _ m)),some (_,i)=>(0≤n∧n≤m∧i.F2*m≤140737488355328∧m≤9223372036854775807∧0<i.sz) ∧
   K (.so h (ob.g+1) 0 n.toNat) (s.set h ⟨ob.g+1,true,i.sz,List.replicate n.toNat (i.zero.map cv)⟩)
 |_,_,_=>False
theorem LY (v:Value):ao 0 (cv v)=true:=by
 unfold cv
 split <;> rfl
def I5 (P:Program) (o:Oper) (e:Env) (s:List Obj) (h:Nat) (K:V→List Obj→Prop):Prop :=
 match s[h]? with
 |none=>False
 |some ob=>match o.op with
  |.alloc t=>ob.live=true∧match cA P t with
   |some i=>K (.rf h (ob.g+1) 0 0) (s.set h ⟨ob.g+1,true,i.sz,[i.zero.map cv]⟩)
   |none=>False
  |.box _ x=>ob.live=true∧match ep (ev e x) with
   |some cs=>K (.rf h (ob.g+1) 0 0) (s.set h ⟨ob.g+1,true,cs.length,[cs]⟩)
   |none=>False
  |.store t a x=>match ev e a with
   |.rf id _ _ _=>id=h∧fW P t s (ev e a) (ev e x) fun s'=>K .un s'
   |.pp id _ _ _ _ _=>id=h∧fW P t s (ev e a) (ev e x) fun s'=>K .un s'
   |_=>False
  |.makeSlice t l c=>QM P t (ev e l) (ev e c) ob h s K
  |.call c=>match c.callee,c.args.toList,c.argTypes.toList with
   |.builtin .append,[a,x],[t,t']=>match ev e a with
    |.so id _ _ _=>(id=h∧BM (ev e x)=true)∧t=t'∧dG P t (ev e a) (ev e x) s K
    |.fu aV=>PY P t t' aV (ev e x) ob h s K
    |_=>False
   |_,_,_=>False
  |_=>False
theorem J2 {σ:Gh}{s:List Obj}{w:World} (hI:Inv σ s w) {id:Nat}{o:Obj} (ho:s[id]?=some o) (s9:o.live=true) {sz:Nat}{aV:List (List V)}{arr:Array Value} (E:TypeId) (hl:∀e∈aV,e.length=sz) (hs:aV.length*sz≤arr.size)
  (hc:∀(i j:Nat) (x:V),(aV[i]?.bind (·[j]?))=some x→∃u,arr[i*sz+j]?=some u∧u.oneCell'=true∧aI σ s w x u) :
  aY σ s w (mj σ id (some (w.heap.size,0))) (s.set id ⟨o.g+1,true,sz,aV⟩) (w.alloc (.cells arr E)) ∧
  Inv (mj σ id (some (w.heap.size,0))) (s.set id ⟨o.g+1,true,sz,aV⟩) (w.alloc (.cells arr E)):=by
 refine mZ (p:=some (w.heap.size,0)) hI ho s9 rfl rfl rfl (by simp) (fun b hb _=>Go.RowKit.Below.heap_alloc w _ b hb)
  (fun b base cZ E' ra hh=>⟨cZ,by rw[Go.RowKit.Below.heap_alloc w _ b (fv hh)];exact hh,rfl⟩)
  (fun b base ra hm=>let ⟨es,c,hh⟩:=hm;⟨es,c,by rw[Go.RowKit.Below.heap_alloc w _ b (fv hh)];exact hh⟩) (Nat.le_succ _) (fun h=>by simp at h) (fun b base h=>by cases h;exact .inr (W4 _))
  (fun hE=>.inr ⟨w.heap.size,0,arr,E,rfl,heap_alloc_new w _,hl,by simpa using hs,fun i j x hx=>?_⟩)
 obtain⟨u,h1,h2,h3⟩:=hc i j x hx
 exact⟨u,by simpa using h1,h2,h3.bS hE⟩
theorem Nm {σ:Gh}{s:List Obj}{w:World}{id:Nat} (dJ:id<s.length) {o:Obj}{b base:Nat} (hC:Fg w b):aI (mj σ id (some (b,base))) (s.set id o) w (.rf id o.g 0 0) (.pointer (some ⟨b,base,none⟩)) :=
 .rf o (by simp [dJ]) (W4 _) rfl (fun _=>⟨b,base,cw _ _ _,hC,by simp⟩)
theorem Ka {P:Program}{full:List Oper}{o:Oper}{e:Env}{s:List Obj}{h:Nat}{K:V→List Obj→Prop} (ha:I5 P o e s h K) :
  ∃v o',K v (s.set h o')∧∀s',s'.length=s.length→s'[h]?=s[h]?→Li P full o e s' v (s'.set h o'):=by
 obtain⟨dst,op,ty,pos,after,guard⟩:=o
 unfold I5 at ha
 cases No:s[h]? with
 |none=>rw[No]at ha;exact ha.elim
 |some ob =>
  rw[No]at ha
  simp only at ha
  cases op <;> simp only at ha <;> try exact ha.elim
  case alloc t =>
   obtain⟨hl,ha⟩:=ha
   split at ha
   case h_2=>exact ha.elim
   rename_i i hi
   refine⟨_,_,ha,fun s' hlen ra σ w N a hI hR=>?_⟩
   obtain⟨z,hz,hr,hs,Oa⟩:=uI hi σ s' w
   have:=J2 hI ra hl (aV:=[i.zero.map cv]) (sz:=i.sz) (arr:=z.cells) t (by simp;rw[← Oa];simpa using hs) (by simp [hs]) (qv hr i.sz)
   refine fO (u:=.pointer (some ⟨w.heap.size,0,none⟩)) (w':=w.alloc (.cells z.cells t)) ?_ this.1 this.2 (Nm (o:=⟨ob.g+1,true,i.sz,[i.zero.map cv]⟩) (List.getElem?_eq_some_iff.1 ra).1 ⟨_,_,heap_alloc_new w _⟩) ⟨rfl,rfl⟩
   simp [execOp,Instr.alloc,hz,newVar,newRow]
  case box t x =>
   obtain⟨hl,ha⟩:=ha
   split at ha
   case h_2=>exact ha.elim
   rename_i cs nI
   refine⟨_,_,ha,fun s' hlen ra σ w N a hI hR=>?_⟩
   have hm:ev (ny full ⟨dst,.box t x,ty,pos,after,guard⟩ e) x=ev e x:=by
    cases x with
    |tmp t'=>simp [ev,ny,Oper.looksAt,Op.operands]
    |_=>rfl
   have hx:=hR.ev x
   rw[hm]at hx
   have hr:sQ σ s' w cs (a.eval x).cells:=kt hx nI
   have:=J2 hI ra hl (aV:=[cs]) (sz:=cs.length) (arr:=(a.eval x).cells) t (by simp) (by simp [hr.1]) (qv hr _)
   refine fO (u:=.pointer (some ⟨w.heap.size,0,none⟩)) (w':=w.alloc (.cells (a.eval x).cells t)) ?_ this.1 this.2 (Nm (o:=⟨ob.g+1,true,cs.length,[cs]⟩) (List.getElem?_eq_some_iff.1 ra).1 ⟨_,_,heap_alloc_new w _⟩) ⟨rfl,rfl⟩
   simp [execOp,Instr.box,newVar,newRow]
  case store t x y =>
   split at ha
   case h_3=>exact ha.elim
   ·rename_i id g k off hx
    obtain⟨rfl,ha⟩:=ha
    unfold fW at ha
    cases ht:cA P t with
    |none=>rw[ht]at ha;exact ha.elim
    |some i =>
     rw[ht]at ha
     simp only[hx,No]at ha
     obtain⟨h1,h2,ha⟩:=ha
     split at ha
     ·exact ha.elim
     ·rename_i cs nI
      split at ha
      ·exact ha.elim
      ·rename_i ns yX
       obtain⟨h3,h4,ha⟩:=ha
       refine⟨_,_,ha,fun s' hlen ra=>jn ?_⟩
       unfold lx da
       simp only[fW,ht,hx,ra,No,nI,yX]
       exact⟨h1,h2,h3,h4,trivial,trivial⟩
   ·rename_i id g k off b a' hx
    obtain⟨rfl,ha⟩:=ha
    unfold fW at ha
    cases ht:cA P t with
    |none=>rw[ht]at ha;exact ha.elim
    |some i =>
     rw[ht]at ha
     simp only[hx,No]at ha
     obtain⟨h1,h2,ha⟩:=ha
     split at ha
     ·exact ha.elim
     ·rename_i cs nI
      split at ha
      ·exact ha.elim
      ·rename_i ns yX
       obtain⟨h3,h4,ha⟩:=ha
       refine⟨_,_,ha,fun s' hlen ra=>jn ?_⟩
       unfold lx da
       simp only[fW,ht,hx,ra,No,nI,yX]
       exact⟨h1,h2,h3,h4,trivial,trivial⟩
  case makeSlice t l c =>
   unfold QM at ha
   split at ha
   case h_2=>exact ha.elim
   rename_i k1 n k2 m ee i hl hc aW
   obtain⟨h1,ha⟩:=ha
   refine⟨_,_,ha,fun s' hlen ra σ w N a0 hI hR=>?_⟩
   have Lj:lx P ⟨dst,.makeSlice t l c,ty,pos,after,guard⟩ e s' (.so s'.length 0 0 n.toNat) (s'++[⟨0,true,i.sz,List.replicate n.toNat (i.zero.map cv)⟩]):=by
    unfold lx da
    simp only
    unfold fw
    rw[hl,hc,aW]
    exact⟨h1,rfl,rfl⟩
   refine Oper.wp_mono (fun a' w' ⟨u,v,σ',s1,QO,x5,jN,rl,Se,SS⟩=>?_) (jn Lj σ w N a0 hI hR)
   subst Se SS
   obtain⟨m1,m2,m3⟩:=Ab hI x5 jN ra rfl (fun i' j x' rV=>by
    cases hq:(List.replicate n.toNat (i.zero.map cv))[i']? with
    |none=>rw[hq]at rV;cases rV
    |some e' =>
     have he:=List.eq_of_mem_replicate (W6 hq)
     subst he
     rw[hq]at rV
     simp only[XH,Xd]at rV
     obtain⟨d,_,rfl⟩:=Option.map_eq_some_iff.1 rV
     exact LY d)
   exact⟨u,_,_,_,QO,m1,m2,m3 _ _ _ rl,rfl,rfl⟩
  case call c =>
   split at ha
   case h_2=>exact ha.elim
   rename_i a x t t' MQ LU RQ
   split at ha
   case h_3=>exact ha.elim
   case h_2 =>
    rename_i aV hx
    obtain⟨callee,args,Lm⟩:=c
    simp only at MQ LU RQ
    subst MQ
    unfold PY at ha
    split at ha
    case h_2=>exact ha.elim
    rename_i ns ee i hy aW
    obtain⟨⟨rfl,h1,h2,h3,h4,h5,h6⟩,ha⟩:=ha
    refine⟨_,_,ha,fun s' hlen ra σ w N a0 hI hR=>?_⟩
    have aS:h<s'.length:=fL ra
    have Lj:lx P ⟨dst,.call ⟨.builtin .append,args,Lm⟩,ty,pos,after,guard⟩ e s' (.so s'.length 0 0 (aV.length+ns.length)) (s'++[⟨0,true,i.sz,(aV++ns).map (·.map .d)⟩]):=by
     unfold lx da gk
     simp only[LU,RQ]
     unfold dG
     rw[hx,hy,aW]
     have Ot:iS s' (.fu ns)=some (ns.map (·.map .d)):=rfl
     rw[Ot]
     refine⟨trivial,⟨fun e he=>?_,h2,h3⟩,?_⟩
     ·obtain⟨d,hd,rfl⟩:=List.mem_map.1 he
      simpa using h6 d hd
     ·simp only
      refine⟨⟨.inr (by simpa using h1),by simpa using h4,h5⟩,?_,?_⟩
      ·simp
      ·simp [XC]
    refine Oper.wp_mono (fun a' w' ⟨u,v,σ',s1,QO,x5,jN,rl,Se,SS⟩=>?_) (jn Lj σ w N a0 hI hR)
    subst Se SS
    obtain⟨m1,m2,m3⟩:=Ab hI x5 jN ra rfl (fun i' j x' rV=>by
     rw[Xd]at rV
     cases hq:(aV++ns)[i']? with
     |none=>rw[hq]at rV;cases rV
     |some c =>
      rw[hq]at rV
      simp only[XE,XH,Xd]at rV
      obtain⟨d,_,rfl⟩:=Option.map_eq_some_iff.1 rV
      rfl)
    exact⟨u,_,_,_,QO,m1,m2,m3 _ _ _ rl,rfl,rfl⟩
   rename_i id g lo n hx
   obtain⟨⟨rfl,Lt⟩,rfl,ha⟩:=ha
   obtain⟨callee,args,Lm⟩:=c
   simp only at MQ LU RQ
   subst MQ
   unfold dG at ha
   cases aW:kN P t with
   |none=>rw[aW]at ha;exact ha.elim
   |some ei =>
    obtain⟨ee,i⟩:=ei
    rw[aW]at ha
    simp only at ha
    cases yX:iS s (ev e x) with
    |none=>rw[yX]at ha;exact ha.elim
    |some ns =>
     rw[yX]at ha
     simp only[hx,qZ,No]at ha
     obtain⟨h1,h2,h3,ha⟩:=ha
     refine⟨_,_,ha,fun s' hlen ra=>jn ?_⟩
     unfold lx da gk
     simp only[LU,RQ]
     unfold dG
     rw[Et Lt s s',yX,aW]
     simp only[hx,qZ,ra,No]
     exact⟨trivial,h1,h2,h3,trivial,trivial⟩
def IZ (s:List Obj) (K:V→List Obj→Prop) (v:V) (s1:List Obj):Prop:=s1=s∧K v s
theorem qV {s:List Obj}{K:V→List Obj→Prop}{v:V}{s1:List Obj}:IZ s K v s1=(s1=s∧K v s):=(rfl)
def AS (o:Oper) (e:Env) (ws:List Nat):Bool:=H9 o&&(n8 e o).all fun id=>!ws.contains id
def MO (o:Oper) (e:Env) (rd:List Nat):Bool:=H9 o&&(n8 e o).all fun id=>rd.contains id
def eO (P:Program) (bars:List Nat) (fs:cF) (i:Nat) (o:Oper) (e:Env) (s:List Obj) (K:V→List Obj→Prop):Prop :=
 match bars.contains i with
 |true=>match jC o e with
  |some (some (f,args))=>NN P f args s K
  |some none=>False
  |none=>da P o e s K
 |false=>match fP fs i with
  |none=>match jC o e with
   |some (some (f,args))=>NJ P f args s K
   |some none=>False
   |none=>AS o e (Bz fs)=true∧da P o e s (IZ s K)
  |some (rd,wr)=>match jC o e with
   |some (some (f,args))=>mq P rd wr f args s K
   |some none=>False
   |none=>match wr with
    |[]=>MO o e rd=true∧da P o e s (IZ s K)
    |[h]=>rd.contains h=true∧I5 P o e s h K
    |_=>False
theorem s5:∀(ρ:List Nat) (os:List Obj) (s s':List Obj) (id:Nat),id∈ρ→os.length=ρ.length→s.length=s'.length→(aZ s ρ os)[id]?=(aZ s' ρ os)[id]?
 |[],_,_,_,_,h,_,_=>by cases h
 |r::ρ,[],_,_,_,_,h,_=>by simp at h
 |r::ρ,o::os,s,s',id,h,hl,hs=>by
  simp only[aZ]
  by_cases hm:id∈ρ
  ·exact s5 ρ os _ _ id hm (by simpa using hl) (by simpa using hs)
  ·have:id=r:=by rcases List.mem_cons.1 h with h|h;exact h;exact absurd h hm
   subst this
   rw[fz ρ os _ _ hm,fz ρ os _ _ hm]
   by_cases aS:id<s.length
   ·rw[XK aS,XK (by omega)]
   ·rw[XQ (by simp;omega),XQ (by simp;omega)]
theorem Iq {P:Program}{full:List Oper}{bars:List Nat}{fs:cF}{i:Nat}{o:Oper}{e:Env}{s:List Obj}{K:V→List Obj→Prop} (hg:∀g want,o.guard=some (g,want)→∃d,jE full g=some d∧e d=.d (.sc (.bool want))) (h:eO P bars fs i o e s K) :
  ∃v tf,G2 P full bars fs i o ⟨some v,tf⟩ e s∧K v (tf s):=by
 unfold eO at h
 cases hb:bars.contains i with
 |true =>
  rw[hb]at h
  simp only at h
  have SD:∀v s1,lx P o e s v s1→K v s1→∃v tf,G2 P full bars fs i o ⟨some v,tf⟩ e s∧K v (tf s):=by
   intro v s1 h1 h2
   refine⟨v,fun _=>s1,⟨(fun h=>by rw[hb]at h;cases h),hg,fun s' _ h' _=>?_⟩,h2⟩
   rw[h' hb]
   exact jn h1
  split at h
  ·rename_i f args hc
   obtain⟨v,s1,h1,h2⟩:=h
   exact SD v s1 (by unfold lx;rw[yi hc];exact h1) h2
  ·exact h.elim
  ·rename_i hc
   obtain⟨v,s1,h1,h2⟩:=FR (sk hc) _ h
   exact SD v s1 h1 h2
 |false =>
  rw[hb]at h
  simp only at h
  cases hf:fP fs i with
  |none =>
   rw[hf]at h
   simp only at h
   have QQ:Ew fs i fun s=>s:=fun s=>⟨rfl,fun _ _=>rfl,fun s' hl id hw _=>by simp [lY,hf]at hw⟩
   split at h
   ·rename_i f args hc
    obtain⟨v,h1,h2⟩:=h
    exact⟨v,fun s=>s,⟨fun _=>QQ,hg,fun s' _ _ _=>jn (by unfold lx;rw[yi hc];exact h1 s')⟩,h2⟩
   ·exact h.elim
   ·rename_i hc
    obtain⟨hr,h⟩:=h
    obtain⟨v,s1,h1,h2,h3⟩:=FR (sk hc) _ h
    subst h2
    simp only[AS,W7,Xn,Bool.not_eq_true',List.contains_eq_mem,decide_eq_false_iff_not]at hr
    refine⟨v,fun s=>s,⟨fun _=>QQ,hg,fun s' _ _ OV=>jn (DW hr.1 (fun id dJ=>OV id ?_) h1)⟩,h3⟩
    unfold NP
    rw[hf]
    exact hr.2 id dJ
  |some Vm =>
   obtain⟨rd,wr⟩:=Vm
   rw[hf]at h
   simp only at h
   split at h
   ·rename_i f args hc
    obtain⟨v,os,hl,h1,h2⟩:=h
    refine⟨v,fun s=>aZ s wr os,⟨fun _ s=>⟨lU _ _ _,fun id dJ=>fz _ _ _ _ (by simpa [lY,hf]using dJ),fun s' Nl id dJ _=>s5 _ _ _ _ _ (by simpa [lY,hf]using dJ) hl Nl.symm⟩,hg,
     fun s' Nl _ OV=>jn (by unfold lx;rw[yi hc];exact h1 s' Nl fun id dJ=>OV id (by unfold NP;rw[hf];exact dJ))⟩,h2⟩
   ·exact h.elim
   ·rename_i hc
    split at h
    ·obtain⟨hr,h⟩:=h
     obtain⟨v,s1,h1,h2,h3⟩:=FR (sk hc) _ h
     subst h2
     simp only[MO,W7,Xn,List.contains_eq_mem,decide_eq_true_eq]at hr
     refine⟨v,fun s=>s,⟨fun _ s=>⟨rfl,fun _ _=>rfl,fun s' hl id hw _=>by simp [lY,hf]at hw⟩,hg,fun s' _ _ OV=>jn (DW hr.1 (fun id dJ=>OV id ?_) h1)⟩,h3⟩
     unfold NP
     rw[hf]
     exact hr.2 id dJ
    ·rename_i hh
     obtain⟨hr,h⟩:=h
     obtain⟨v,o',h1,h2⟩:=Ka (full:=full) h
     refine⟨v,fun s=>s.set hh o',⟨fun _ s=>⟨by simp,fun id dJ=>?_,fun s' Nl id dJ _=>?_⟩,hg,fun s' Nl _ OV=>h2 s' Nl (OV hh ?_)⟩,h1⟩
     ·have:id≠hh:=by simpa [lY,hf]using dJ
      exact XZ (Ne.symm this)
     ·have:id=hh:=by simpa [lY,hf]using dJ
      subst this
      by_cases aS:id<s.length
      ·rw[XK aS,XK (by omega)]
      ·rw[XQ (by simp;omega),XQ (by simp;omega)]
     ·unfold NP
      rw[hf]
      simpa using hr
    ·exact h.elim
def fI (P:Program) (N:Nat) (full:List Oper) (bars:List Nat) (fs:cF):Nat→List Oper→Env→List Obj→(Env→List Obj→Prop)→Prop
 |_,[],e,s,K=>K e s
 |i,o::rest,e,s,K=>eg N o.dst∧match o.guard with
  |none=>match o.op with
   |.pick c a b=>bars.contains i=false∧fP fs i=none∧fN (ev e c) (fI P N full bars fs (i+1) rest (gE e o.dst (ev e a)) s K) (fI P N full bars fs (i+1) rest (gE e o.dst (ev e b)) s K)
   |_=>eO P bars fs i o e s fun v s1=>fI P N full bars fs (i+1) rest (gE e o.dst v) s1 K
  |some (g,want)=>jr (jE full g) e want (fun e=>eO P bars fs i o e s fun v s1=>fI P N full bars fs (i+1) rest (gE e o.dst v) s1 K)
    (fun e=>fI P N full bars fs (i+1) rest (gE e o.dst .un) s K)
theorem oM {P:Program}{N:Nat}{full:List Oper}{bars:List Nat}{fs:cF}:∀(l:List Oper) (i:Nat) (e:Env) (s:List Obj) (K:Env→List Obj→Prop),fI P N full bars fs i l e s K →
  ∃tr e' s',Trace P N full bars fs i l tr e s e' s'∧K e' s'
 |[],i,e,s,K,h=>⟨[],e,s,⟨rfl,rfl⟩,h⟩
 |o::rest,i,e,s,K,h=>by
  obtain⟨hd,h⟩:=h
  have run:(∀g want,o.guard=some (g,want)→∃d,jE full g=some d∧e d=.d (.sc (.bool want)))→(eO P bars fs i o e s fun v s1=>fI P N full bars fs (i+1) rest (gE e o.dst v) s1 K) →
    ∃tr e' s',Trace P N full bars fs i (o::rest) tr e s e' s'∧K e' s':=by
   intro hg h
   obtain⟨v,tf,h1,h2⟩:=Iq hg h
   obtain⟨tr,e',s',k1,k2⟩:=oM rest (i+1) _ _ K h2
   exact⟨⟨some v,tf⟩::tr,e',s',⟨hd,h1,k1⟩,k2⟩
  split at h
  ·rename_i hg
   have Rm:∀g want,o.guard=some (g,want)→∃d,jE full g=some d∧e d=.d (.sc (.bool want)):=fun g want h=>by rw[hg]at h;cases h
   split at h
   ·rename_i c a b wI
    obtain⟨WD,Vh,h⟩:=h
    unfold fN at h
    split at h
    ·rename_i bb IK
     have go:∀(v:V),(∀s',lx P o e s' v s')→fI P N full bars fs (i+1) rest (gE e o.dst v) s K→∃tr e' s',Trace P N full bars fs i (o::rest) tr e s e' s'∧K e' s':=by
      intro v hv h2
      obtain⟨tr,e',s',k1,k2⟩:=oM rest (i+1) _ _ K h2
      exact⟨⟨some v,fun s=>s⟩::tr,e',s',⟨hd,⟨fun _ s=>⟨rfl,fun _ _=>rfl,fun s' hl id hw _=>by simp [lY,Vh]at hw⟩,Rm,fun s' _ _ _=>jn (hv s')⟩,k1⟩,k2⟩
     cases bb with
     |true=>exact go _ (fun s'=>by simp [lx,da,wI,fN,IK]) (h.1 rfl)
     |false=>exact go _ (fun s'=>by simp [lx,da,wI,fN,IK]) (h.2 rfl)
    ·exact h.elim
   ·exact run Rm h
  ·rename_i g want hg
   unfold jr at h
   split at h
   case h_1=>exact h.elim
   rename_i d RW
   have skip:(e d=.d (.sc (.bool (!want)))∨e d=.un)→fI P N full bars fs (i+1) rest (gE e o.dst .un) s K →
     ∃tr e' s',Trace P N full bars fs i (o::rest) tr e s e' s'∧K e' s':=by
    intro hv h2
    obtain⟨tr,e',s',k1,k2⟩:=oM rest (i+1) _ _ K h2
    exact⟨⟨none,fun s=>s⟩::tr,e',s',⟨hd,⟨fun _ s=>⟨rfl,fun _ _=>rfl,fun s' hl id _ h=>h.symm⟩,fun _=>rfl,g,want,d,hg,RW,hv⟩,k1⟩,k2⟩
   split at h
   ·rename_i b hb
    by_cases R4:b=want
    ·subst R4
     have:=h.1 rfl
     rw[Ay hb]at this
     exact run (fun g' T8 Dd=>by rw[hg]at Dd;cases Dd;exact⟨d,RW,hb⟩) this
    ·have Sc:b=!want:=by cases b <;> cases want <;> simp_all
     subst Sc
     have:=h.2 rfl
     rw[Ay hb]at this
     exact skip (.inl hb) this
   ·rename_i hb
    exact skip (.inr hb) h
   ·exact h.elim
def fy (P:Program) (N:Nat) (full:List Oper) (bars:List Nat) (fs:cF) (i:Nat) (rest:List Oper) (e:Env) (d:Option Nat) (K:Env→List Obj→Prop) (v:V) (s:List Obj):Prop:=fI P N full bars fs i rest (gE e d v) s K
theorem qR {P:Program}{N:Nat}{full:List Oper}{bars:List Nat}{fs:cF}{i:Nat}{rest:List Oper}{e:Env}{d:Option Nat}{K:Env→List Obj→Prop}{v:V}{s:List Obj}:fy P N full bars fs i rest e d K v s=fI P N full bars fs i rest (gE e d v) s K:=(rfl)
theorem tb {P:Program}{N:Nat}{full:List Oper}{bars:List Nat}{fs:cF}{i:Nat}{e:Env}{s:List Obj}{K:Env→List Obj→Prop}:fI P N full bars fs i [] e s K=K e s:=(rfl)
theorem aq {P:Program}{N:Nat}{full:List Oper} (hm:P.follows .mixedOrders=true) (bars:List Nat) (fs:cF) {e:Env}{s:List Obj}{K:Env→List Obj→Prop} (hd:iG full bars fs=true) (h:fI P N full bars fs 0 full e s K):uB P N full e s K:=by
 obtain⟨tr,e',s',h1,h2⟩:=oM _ _ _ _ _ h
 exact CP hm hd h1 h2
theorem cP {P:Program}{f:FuncId}{args:List V}{r:V}{s:List Obj}{K:V→List Obj→Prop} (h:br P f args r) (ha:ao.go 0 args=true) (hr:ao 0 r=true) (hk:K r s):NJ P f args s K :=
 ⟨r,fun s'=>aD h ha hr ⟨rfl,rfl⟩,hk⟩
theorem bu {P:Program}{f:FuncId}{args:List V}{s:List Obj}{K:V→List Obj→Prop}{r:V}{s1:List Obj} (h:av P f args s fun v' Ar=>v'=r∧Ar=s1) (hk:K r s1):NN P f args s K:=⟨r,s1,h,hk⟩
def bM (e:Env) (s:List Obj) (e':Env) (s':List Obj):Prop :=
 ∀(σ0:Gh) (s0:List Obj) (w0:World) (σ:Gh) (w:World) (N:Nat) (a:Act),aY σ0 s0 w0 σ s w→Inv σ s w→fE σ s w N e a→∃σ',aY σ0 s0 w0 σ' s' w∧Inv σ' s' w∧fE σ' s' w N e' a
theorem aH {P:Program}{N:Nat}{full:List Oper}{e e':Env}{s s':List Obj}{K:Env→List Obj→Prop} (h:bM e s e' s') (k:uB P N full e' s' K):uB P N full e s K:=by
 intro σ0 s0 w0 Q Sx σ w a id hE hI hR
 obtain⟨σ',h1,h2,h3⟩:=h σ0 s0 w0 σ w N a hE hI hR
 exact k σ0 s0 w0 Q Sx σ' w a id h1 h2 h3
def hole:Obj:=⟨0,true,0,[]⟩
theorem bM.aP {e:Env}{s:List Obj}:bM e s e (s++[hole]):=by
 intro σ0 s0 w0 σ w N a hE hI hR
 have:=lz (p:=none) (o':=hole) (w':=w) hI rfl rfl rfl (W4 _) (fun _ _=>rfl) (fun _ _ h'=>by cases h') (fun _=>.inl (.inl ⟨rfl,rfl⟩))
 exact⟨_,hE.trans this.1,this.2,hR.bS this.1⟩
theorem bM.trans {e e' Rv:Env}{s s' Ar:List Obj} (h:bM e s e' s') (k:bM e' s' Rv Ar):bM e s Rv Ar:=by
 intro σ0 s0 w0 σ w N a hE hI hR
 obtain⟨σ',h1,h2,h3⟩:=h σ0 s0 w0 σ w N a hE hI hR
 exact k σ0 s0 w0 σ' w N a h1 h2 h3
def fq (s:List Obj) (zw:List Nat) (e:Env):Env:=fun t=>if zw.contains t then ni s.length s (e t) else e t
theorem bM.freeze {e:Env}{s:List Obj} (ids zw:List Nat):bM e s (fq (aM s ids) zw e) (aM s ids):=by
 intro σ0 s0 w0 σ w N a hE hI hR
 obtain⟨h1,h2⟩:=sJ ids s hI
 refine⟨σ,hE.trans h1,h2,hR.1,hR.2.1,fun t=>?_⟩
 unfold fq
 split
 ·have:=DB h2 (cE:=(aM s ids).length) ((hR.2.2 t).bS h1)
  rwa [XA]at this
 ·exact(hR.2.2 t).bS h1
theorem aL {P:Program}{f:FuncId}{args:List V}{o o':Obj}{r:V}{rest:List Obj}{K:V→List Obj→Prop} (h:av P f args [o] fun v s'=>v=r∧s'=[o']) (ha:args.map (bF [0])=args) (td:ao.go 1 args=true)
  (hoo:cU 1 o=true) (ho:bX [0] o=o) (nN:bX [0] o'=o') (hr:bF [0] r=r) (hk:K r (o'::rest)):av P f args (o::rest) K:=by
 refine rO h [0] rfl (by simp) (fun k ob hk=>?_) ha.symm td (by simp [hoo]) fun v s' hv=>?_
 ·cases k with
  |zero=>simp at hk;subst hk;simp [ho]
  |succ k=>simp at hk
 ·obtain⟨rfl,rfl⟩:=hv
  refine⟨rfl,?_⟩
  rw[hr]
  simpa [aZ,nN]using hk
theorem zZ {P:Program}{f:FuncId}{args:List V}{o o':Obj}{r:V}{rest:List Obj}{K:V→List Obj→Prop} (h:av P f args [o] fun v s'=>v=r∧s'=[o']) (ha:args.map (bF [0])=args) (td:ao.go 1 args=true)
  (hoo:cU 1 o=true) (ho:bX [0] o=o) (nN:bX [0] o'=o') (hr:bF [0] r=r) (hk:K r (o'::rest)):mq P [0] [0] f args (o::rest) K:=by
 refine⟨r,[o'],rfl,fun s' hl hs=>?_,by simpa [aZ]using hk⟩
 cases s' with
 |nil=>simp at hl
 |cons o1 UC =>
  have:o1=o:=by have:=hs 0 (by simp);simpa using this
  subst this
  exact aL h ha td hoo ho nN hr ⟨rfl,by simp [aZ]⟩
def yV (K:V→List Obj→Prop) (s:List Obj) (v:V):Prop:=K v s
theorem v9 {K:V→List Obj→Prop}{s:List Obj}{v:V}:yV K s v=K v s:=(rfl)
def RM (K:V→List Obj→Prop) (s:List Obj):Prop:=K .un s
theorem wg {K:V→List Obj→Prop}{s:List Obj}:RM K s=K .un s:=(rfl)
def lT {α β:Type} (x:V) (A B:α→β→Prop) (e:α) (s:β):Prop:=pA x (A e s) (B e s)
theorem oa {α β:Type}{A B:α→β→Prop}{e:α}{s:β}:lT (.d (.sc (.bool true))) A B e s=A e s:=by simp [lT,pA,fN]
theorem m8 {α β:Type}{A B:α→β→Prop}{e:α}{s:β}:lT (.d (.sc (.bool false))) A B e s=B e s:=by simp [lT,pA,fN]
theorem u6 {α β:Type}{A B:α→β→Prop}{e:α}{s:β}{p:Prop} [Decidable p]:lT (.d (.sc (.bool (decide p)))) A B e s=((p→A e s)∧(¬p→B e s)):=by simp [lT,pA,fN]
theorem qy {α β:Type}{A B:α→β→Prop}{e:α}{s:β}{b:Bool}:lT (.d (.sc (.bool (!b)))) A B e s=lT (.d (.sc (.bool b))) B A e s:=by cases b <;> simp [lT,pA,fN]
theorem sH {α β:Type}{A B:α→β→Prop}{e:α}{s:β}:lT (.d .ub) A B e s=(A e s∧B e s):=(rfl)
theorem Hh {α β:Type}{A B:α→β→Prop}{e:α}{s:β}{b:Bool}:lT (.d (.sc (.bool b))) A B e s=((b=true→A e s)∧(b=false→B e s)):=by simp [lT,pA,fN]
def pU (x:V) (A B:List Obj→Prop) (s:List Obj):Prop:=fN x (A s) (B s)
theorem oK {A B:List Obj→Prop}{s:List Obj}:pU (.d (.sc (.bool true))) A B s=A s:=by simp [pU,fN]
theorem mS {A B:List Obj→Prop}{s:List Obj}:pU (.d (.sc (.bool false))) A B s=B s:=by simp [pU,fN]
theorem zR {A B:List Obj→Prop}{s:List Obj}{p:Prop} [Decidable p]:pU (.d (.sc (.bool (decide p)))) A B s=((p→A s)∧(¬p→B s)):=by simp [pU,fN]
theorem qk {A B:List Obj→Prop}{s:List Obj}{b:Bool}:pU (.d (.sc (.bool (!b)))) A B s=pU (.d (.sc (.bool b))) B A s:=by cases b <;> simp [pU,fN]
def eA (x:V) (d:Nat) (want:Bool) (A B:Env→Prop) (e:Env):Prop :=
 match x with
 |.d (.sc (.bool b))=>(b=want→A (bW e d (.d (.sc (.bool want)))))∧(b=(!want)→B (bW e d (.d (.sc (.bool (!want))))))
 |.un=>B e
 |_=>False
theorem qU {d:Nat}{A B:Env→Prop}{e:Env}:eA (.d (.sc (.bool true))) d true A B e=A (bW e d (.d (.sc (.bool true)))):=by simp [eA]
theorem qd {d:Nat}{A B:Env→Prop}{e:Env}:eA (.d (.sc (.bool false))) d false A B e=A (bW e d (.d (.sc (.bool false)))):=by simp [eA]
theorem qT {d:Nat}{A B:Env→Prop}{e:Env}:eA (.d (.sc (.bool true))) d false A B e=B (bW e d (.d (.sc (.bool true)))):=by simp [eA]
theorem qP {d:Nat}{A B:Env→Prop}{e:Env}:eA (.d (.sc (.bool false))) d true A B e=B (bW e d (.d (.sc (.bool false)))):=by simp [eA]
theorem qX {d:Nat}{want:Bool}{A B:Env→Prop}{e:Env}:eA .un d want A B e=B e:=(rfl)
theorem uR {d:Nat}{A B:Env→Prop}{e:Env}{p:Prop} [Decidable p]:eA (.d (.sc (.bool (decide p)))) d true A B e=((p→A (bW e d (.d (.sc (.bool true)))))∧(¬p→B (bW e d (.d (.sc (.bool false)))))):=by simp [eA]
theorem uL {d:Nat}{A B:Env→Prop}{e:Env}{p:Prop} [Decidable p]:eA (.d (.sc (.bool (decide p)))) d false A B e=((p→B (bW e d (.d (.sc (.bool true)))))∧(¬p→A (bW e d (.d (.sc (.bool false)))))):=by
 simp only[eA,decide_eq_false_iff_not,W0,decide_eq_true_eq];exact propext And.comm
theorem r7 {d:Nat}{A B:Env→Prop}{e:Env}{p:Prop} [Decidable p]:eA (.d (.sc (.bool (!decide p)))) d true A B e=((p→B (bW e d (.d (.sc (.bool false)))))∧(¬p→A (bW e d (.d (.sc (.bool true)))))):=by
 simp only[eA,Bool.not_eq_true',WY,Bool.not_eq_false',decide_eq_false_iff_not,decide_eq_true_eq];exact propext And.comm
theorem rK {d:Nat}{A B:Env→Prop}{e:Env}{p:Prop} [Decidable p]:eA (.d (.sc (.bool (!decide p)))) d false A B e=((p→A (bW e d (.d (.sc (.bool false)))))∧(¬p→B (bW e d (.d (.sc (.bool true)))))):=by
 simp only[eA,Bool.not_eq_true',W0,Bool.not_eq_false',decide_eq_false_iff_not,decide_eq_true_eq]
def A7 (x:Option Nat) (want:Bool) (A B:Env→Prop) (e:Env):Prop:=jr x e want A B
theorem mB {d:Nat}{want:Bool}{A B:Env→Prop}{e:Env}:A7 (some d) want A B e=eA (e d) d want A B e:=by
 unfold A7 jr eA;exact(rfl)
def gA (P:Program) (N:Nat) (full rest:List Oper) (d:Option Nat) (o:Oper) (s:List Obj) (K:Env→List Obj→Prop) (e:Env):Prop:=da P o e s (cont P N full rest e d K)
def gB (P:Program) (N:Nat) (full rest:List Oper) (d:Option Nat) (s:List Obj) (K:Env→List Obj→Prop) (e:Env):Prop:=mu P N full rest (gE e d .un) s K
theorem Bs {P:Program}{N:Nat}{full rest:List Oper}{d:Option Nat}{o:Oper}{s:List Obj}{K:Env→List Obj→Prop}{e:Env}:gA P N full rest d o s K e=da P o e s (cont P N full rest e d K):=(rfl)
theorem Bv {P:Program}{N:Nat}{full rest:List Oper}{d:Option Nat}{s:List Obj}{K:Env→List Obj→Prop}{e:Env}:gB P N full rest d s K e=mu P N full rest (gE e d .un) s K:=(rfl)
theorem qe {P:Program}{N:Nat}{full rest:List Oper}{d:Option Nat}{op:Op}{ty:TypeId}{pos:String}{af:Array Edge}{e:Env}{s:List Obj}{K:Env→List Obj→Prop} :
  mu P N full (⟨d,op,ty,pos,af,none⟩::rest) e s K=(eg N d∧da P ⟨d,op,ty,pos,af,none⟩ e s (cont P N full rest e d K)):=(rfl)
theorem qj {P:Program}{N:Nat}{full rest:List Oper}{d:Option Nat}{op:Op}{ty:TypeId}{pos:String}{af:Array Edge}{g:Nat}{want:Bool}{e:Env}{s:List Obj}{K:Env→List Obj→Prop} :
  mu P N full (⟨d,op,ty,pos,af,some (g,want)⟩::rest) e s K=(eg N d∧A7 (jE full g) want (gA P N full rest d ⟨d,op,ty,pos,af,some (g,want)⟩ s K) (gB P N full rest d s K) e):=(rfl)
theorem oD {P:Program}{N L M:Nat}{Q:Exit→Env→List Obj→Prop}{e:Env}{s:List Obj}{c:Operand}{a b:Code}:codeWp P N L M (.cond c a b) Q e s=lT (ev e c) (codeWp P N L M a Q) (codeWp P N L M b Q) (mX M e) s:=(rfl)
def hA (P:Program) (N:Nat) (full:List Oper) (bars:List Nat) (fs:cF) (i:Nat) (rest:List Oper) (d:Option Nat) (o:Oper) (s:List Obj) (K:Env→List Obj→Prop) (e:Env):Prop:=eO P bars fs i o e s (fy P N full bars fs (i+1) rest e d K)
def hB (P:Program) (N:Nat) (full:List Oper) (bars:List Nat) (fs:cF) (i:Nat) (rest:List Oper) (d:Option Nat) (s:List Obj) (K:Env→List Obj→Prop) (e:Env):Prop:=fI P N full bars fs (i+1) rest (gE e d .un) s K
theorem Bp {P:Program}{N:Nat}{full:List Oper}{bars:List Nat}{fs:cF}{i:Nat}{rest:List Oper}{d:Option Nat}{o:Oper}{s:List Obj}{K:Env→List Obj→Prop}{e:Env}:hA P N full bars fs i rest d o s K e=eO P bars fs i o e s (fy P N full bars fs (i+1) rest e d K):=(rfl)
theorem Bq {P:Program}{N:Nat}{full:List Oper}{bars:List Nat}{fs:cF}{i:Nat}{rest:List Oper}{d:Option Nat}{s:List Obj}{K:Env→List Obj→Prop}{e:Env}:hB P N full bars fs i rest d s K e=fI P N full bars fs (i+1) rest (gE e d .un) s K:=(rfl)
theorem qA {P:Program}{N:Nat}{full:List Oper}{bars:List Nat}{fs:cF}{i:Nat}{rest:List Oper}{d:Option Nat}{x:Operand}{ty:TypeId}{pos:String}{af:Array Edge}{e:Env}{s:List Obj}{K:Env→List Obj→Prop} :
  fI P N full bars fs i (⟨d,.move x,ty,pos,af,none⟩::rest) e s K=(eg N d∧eO P bars fs i ⟨d,.move x,ty,pos,af,none⟩ e s (fy P N full bars fs (i+1) rest e d K)):=(rfl)
theorem mE {P:Program}{N:Nat}{full:List Oper}{bars:List Nat}{fs:cF}{i:Nat}{rest:List Oper}{d:Option Nat}{x:Operand}{ty:TypeId}{pos:String}{af:Array Edge}{e:Env}{s:List Obj}{K:Env→List Obj→Prop} :
  fI P N full bars fs i (⟨d,.assign x,ty,pos,af,none⟩::rest) e s K=(eg N d∧eO P bars fs i ⟨d,.assign x,ty,pos,af,none⟩ e s (fy P N full bars fs (i+1) rest e d K)):=(rfl)
theorem oG {P:Program}{N:Nat}{full:List Oper}{bars:List Nat}{fs:cF}{i:Nat}{rest:List Oper}{d:Option Nat}{t:TypeId}{ty:TypeId}{pos:String}{af:Array Edge}{e:Env}{s:List Obj}{K:Env→List Obj→Prop} :
  fI P N full bars fs i (⟨d,.alloc t,ty,pos,af,none⟩::rest) e s K=(eg N d∧eO P bars fs i ⟨d,.alloc t,ty,pos,af,none⟩ e s (fy P N full bars fs (i+1) rest e d K)):=(rfl)
theorem sS {P:Program}{N:Nat}{full:List Oper}{bars:List Nat}{fs:cF}{i:Nat}{rest:List Oper}{d:Option Nat}{t:TypeId}{x:Operand}{ty:TypeId}{pos:String}{af:Array Edge}{e:Env}{s:List Obj}{K:Env→List Obj→Prop} :
  fI P N full bars fs i (⟨d,.box t x,ty,pos,af,none⟩::rest) e s K=(eg N d∧eO P bars fs i ⟨d,.box t x,ty,pos,af,none⟩ e s (fy P N full bars fs (i+1) rest e d K)):=(rfl)
theorem oy {P:Program}{N:Nat}{full:List Oper}{bars:List Nat}{fs:cF}{i:Nat}{rest:List Oper}{d:Option Nat}{t:TypeId}{parts:Array (Nat×Operand)}{ty:TypeId}{pos:String}{af:Array Edge}{e:Env}{s:List Obj}{K:Env→List Obj→Prop} :
  fI P N full bars fs i (⟨d,.build t parts,ty,pos,af,none⟩::rest) e s K=(eg N d∧eO P bars fs i ⟨d,.build t parts,ty,pos,af,none⟩ e s (fy P N full bars fs (i+1) rest e d K)):=(rfl)
theorem iC {P:Program}{N:Nat}{full:List Oper}{bars:List Nat}{fs:cF}{i:Nat}{rest:List Oper}{d:Option Nat}{t:TypeId}{n:Nat}{parts:Array (Nat×Operand)}{ty:TypeId}{pos:String}{af:Array Edge}{e:Env}{s:List Obj}{K:Env→List Obj→Prop} :
  fI P N full bars fs i (⟨d,.buildSlice t n parts,ty,pos,af,none⟩::rest) e s K=(eg N d∧eO P bars fs i ⟨d,.buildSlice t n parts,ty,pos,af,none⟩ e s (fy P N full bars fs (i+1) rest e d K)):=(rfl)
theorem qO {P:Program}{N:Nat}{full:List Oper}{bars:List Nat}{fs:cF}{i:Nat}{rest:List Oper}{d:Option Nat}{t:TypeId}{a:Operand}{ty:TypeId}{pos:String}{af:Array Edge}{e:Env}{s:List Obj}{K:Env→List Obj→Prop} :
  fI P N full bars fs i (⟨d,.load t a,ty,pos,af,none⟩::rest) e s K=(eg N d∧eO P bars fs i ⟨d,.load t a,ty,pos,af,none⟩ e s (fy P N full bars fs (i+1) rest e d K)):=(rfl)
theorem kL {P:Program}{N:Nat}{full:List Oper}{bars:List Nat}{fs:cF}{i:Nat}{rest:List Oper}{d:Option Nat}{t:TypeId}{r:Option Operand}{ty:TypeId}{pos:String}{af:Array Edge}{e:Env}{s:List Obj}{K:Env→List Obj→Prop} :
  fI P N full bars fs i (⟨d,.makeMap t r,ty,pos,af,none⟩::rest) e s K=(eg N d∧eO P bars fs i ⟨d,.makeMap t r,ty,pos,af,none⟩ e s (fy P N full bars fs (i+1) rest e d K)):=(rfl)
theorem mK {P:Program}{N:Nat}{full:List Oper}{bars:List Nat}{fs:cF}{i:Nat}{rest:List Oper}{d:Option Nat}{t:TypeId}{x i':Operand}{ok:Bool}{ty:TypeId}{pos:String}{af:Array Edge}{e:Env}{s:List Obj}{K:Env→List Obj→Prop} :
  fI P N full bars fs i (⟨d,.lookup t x i' ok,ty,pos,af,none⟩::rest) e s K=(eg N d∧eO P bars fs i ⟨d,.lookup t x i' ok,ty,pos,af,none⟩ e s (fy P N full bars fs (i+1) rest e d K)):=(rfl)
theorem jb {P:Program}{N:Nat}{full:List Oper}{bars:List Nat}{fs:cF}{i:Nat}{rest:List Oper}{d:Option Nat}{t:TypeId}{m k x:Operand}{ty:TypeId}{pos:String}{af:Array Edge}{e:Env}{s:List Obj}{K:Env→List Obj→Prop} :
  fI P N full bars fs i (⟨d,.mapUpdate t m k x,ty,pos,af,none⟩::rest) e s K=(eg N d∧eO P bars fs i ⟨d,.mapUpdate t m k x,ty,pos,af,none⟩ e s (fy P N full bars fs (i+1) rest e d K)):=(rfl)
theorem oA {P:Program}{N:Nat}{full:List Oper}{bars:List Nat}{fs:cF}{i:Nat}{rest:List Oper}{d:Option Nat}{t:TypeId}{a x:Operand}{ty:TypeId}{pos:String}{af:Array Edge}{e:Env}{s:List Obj}{K:Env→List Obj→Prop} :
  fI P N full bars fs i (⟨d,.store t a x,ty,pos,af,none⟩::rest) e s K=(eg N d∧eO P bars fs i ⟨d,.store t a x,ty,pos,af,none⟩ e s (fy P N full bars fs (i+1) rest e d K)):=(rfl)
theorem tN {P:Program}{N:Nat}{full:List Oper}{bars:List Nat}{fs:cF}{i:Nat}{rest:List Oper}{d:Option Nat}{x:Operand}{ty:TypeId}{pos:String}{af:Array Edge}{e:Env}{s:List Obj}{K:Env→List Obj→Prop} :
  fI P N full bars fs i (⟨d,.nilCheck x,ty,pos,af,none⟩::rest) e s K=(eg N d∧eO P bars fs i ⟨d,.nilCheck x,ty,pos,af,none⟩ e s (fy P N full bars fs (i+1) rest e d K)):=(rfl)
theorem sO {P:Program}{N:Nat}{full:List Oper}{bars:List Nat}{fs:cF}{i:Nat}{rest:List Oper}{d:Option Nat}{op:BinOp}{t t':TypeId}{x y:Operand}{ty:TypeId}{pos:String}{af:Array Edge}{e:Env}{s:List Obj}{K:Env→List Obj→Prop} :
  fI P N full bars fs i (⟨d,.binOp op t x y t',ty,pos,af,none⟩::rest) e s K=(eg N d∧eO P bars fs i ⟨d,.binOp op t x y t',ty,pos,af,none⟩ e s (fy P N full bars fs (i+1) rest e d K)):=(rfl)
theorem qH {P:Program}{N:Nat}{full:List Oper}{bars:List Nat}{fs:cF}{i:Nat}{rest:List Oper}{d:Option Nat}{op:UnOp}{t:TypeId}{x:Operand}{ty:TypeId}{pos:String}{af:Array Edge}{e:Env}{s:List Obj}{K:Env→List Obj→Prop} :
  fI P N full bars fs i (⟨d,.unOp op t x,ty,pos,af,none⟩::rest) e s K=(eg N d∧eO P bars fs i ⟨d,.unOp op t x,ty,pos,af,none⟩ e s (fy P N full bars fs (i+1) rest e d K)):=(rfl)
theorem kR {P:Program}{N:Nat}{full:List Oper}{bars:List Nat}{fs:cF}{i:Nat}{rest:List Oper}{d:Option Nat}{a b:TypeId}{x:Operand}{ty:TypeId}{pos:String}{af:Array Edge}{e:Env}{s:List Obj}{K:Env→List Obj→Prop} :
  fI P N full bars fs i (⟨d,.convert a b x,ty,pos,af,none⟩::rest) e s K=(eg N d∧eO P bars fs i ⟨d,.convert a b x,ty,pos,af,none⟩ e s (fy P N full bars fs (i+1) rest e d K)):=(rfl)
theorem kf {P:Program}{N:Nat}{full:List Oper}{bars:List Nat}{fs:cF}{i:Nat}{rest:List Oper}{d:Option Nat}{fn:Fn}{first ak:Array Operand}{ty:TypeId}{pos:String}{af:Array Edge}{e:Env}{s:List Obj}{K:Env→List Obj→Prop} :
  fI P N full bars fs i (⟨d,.makeFunc fn first ak,ty,pos,af,none⟩::rest) e s K=(eg N d∧eO P bars fs i ⟨d,.makeFunc fn first ak,ty,pos,af,none⟩ e s (fy P N full bars fs (i+1) rest e d K)):=(rfl)
theorem jc {P:Program}{N:Nat}{full:List Oper}{bars:List Nat}{fs:cF}{i:Nat}{rest:List Oper}{d:Option Nat}{t:TypeId}{l c:Operand}{ty:TypeId}{pos:String}{af:Array Edge}{e:Env}{s:List Obj}{K:Env→List Obj→Prop} :
  fI P N full bars fs i (⟨d,.makeSlice t l c,ty,pos,af,none⟩::rest) e s K=(eg N d∧eO P bars fs i ⟨d,.makeSlice t l c,ty,pos,af,none⟩ e s (fy P N full bars fs (i+1) rest e d K)):=(rfl)
theorem ot {P:Program}{N:Nat}{full:List Oper}{bars:List Nat}{fs:cF}{i:Nat}{rest:List Oper}{d:Option Nat}{t:TypeId}{x:Operand}{lo hi mx:Option Operand}{ty:TypeId}{pos:String}{af:Array Edge}{e:Env}{s:List Obj}{K:Env→List Obj→Prop} :
  fI P N full bars fs i (⟨d,.slice t x lo hi mx,ty,pos,af,none⟩::rest) e s K=(eg N d∧eO P bars fs i ⟨d,.slice t x lo hi mx,ty,pos,af,none⟩ e s (fy P N full bars fs (i+1) rest e d K)):=(rfl)
theorem jo {P:Program}{N:Nat}{full:List Oper}{bars:List Nat}{fs:cF}{i:Nat}{rest:List Oper}{d:Option Nat}{t:TypeId}{x:Operand}{f:Nat}{ty:TypeId}{pos:String}{af:Array Edge}{e:Env}{s:List Obj}{K:Env→List Obj→Prop} :
  fI P N full bars fs i (⟨d,.fieldAddr t x f,ty,pos,af,none⟩::rest) e s K=(eg N d∧eO P bars fs i ⟨d,.fieldAddr t x f,ty,pos,af,none⟩ e s (fy P N full bars fs (i+1) rest e d K)):=(rfl)
theorem oB {P:Program}{N:Nat}{full:List Oper}{bars:List Nat}{fs:cF}{i:Nat}{rest:List Oper}{d:Option Nat}{t:TypeId}{x:Operand}{f:Nat}{ty:TypeId}{pos:String}{af:Array Edge}{e:Env}{s:List Obj}{K:Env→List Obj→Prop} :
  fI P N full bars fs i (⟨d,.field t x f,ty,pos,af,none⟩::rest) e s K=(eg N d∧eO P bars fs i ⟨d,.field t x f,ty,pos,af,none⟩ e s (fy P N full bars fs (i+1) rest e d K)):=(rfl)
theorem jj {P:Program}{N:Nat}{full:List Oper}{bars:List Nat}{fs:cF}{i:Nat}{rest:List Oper}{d:Option Nat}{t:TypeId}{x i':Operand}{ty:TypeId}{pos:String}{af:Array Edge}{e:Env}{s:List Obj}{K:Env→List Obj→Prop} :
  fI P N full bars fs i (⟨d,.indexAddr t x i',ty,pos,af,none⟩::rest) e s K=(eg N d∧eO P bars fs i ⟨d,.indexAddr t x i',ty,pos,af,none⟩ e s (fy P N full bars fs (i+1) rest e d K)):=(rfl)
theorem oL {P:Program}{N:Nat}{full:List Oper}{bars:List Nat}{fs:cF}{i:Nat}{rest:List Oper}{d:Option Nat}{t:TypeId}{x i':Operand}{ty:TypeId}{pos:String}{af:Array Edge}{e:Env}{s:List Obj}{K:Env→List Obj→Prop} :
  fI P N full bars fs i (⟨d,.index t x i',ty,pos,af,none⟩::rest) e s K=(eg N d∧eO P bars fs i ⟨d,.index t x i',ty,pos,af,none⟩ e s (fy P N full bars fs (i+1) rest e d K)):=(rfl)
theorem kS {P:Program}{N:Nat}{full:List Oper}{bars:List Nat}{fs:cF}{i:Nat}{rest:List Oper}{d:Option Nat}{x:Operand}{i':Nat}{ty:TypeId}{pos:String}{af:Array Edge}{e:Env}{s:List Obj}{K:Env→List Obj→Prop} :
  fI P N full bars fs i (⟨d,.extract x i',ty,pos,af,none⟩::rest) e s K=(eg N d∧eO P bars fs i ⟨d,.extract x i',ty,pos,af,none⟩ e s (fy P N full bars fs (i+1) rest e d K)):=(rfl)
theorem pZ {P:Program}{N:Nat}{full:List Oper}{bars:List Nat}{fs:cF}{i:Nat}{rest:List Oper}{d:Option Nat}{c:Call}{ty:TypeId}{pos:String}{af:Array Edge}{e:Env}{s:List Obj}{K:Env→List Obj→Prop} :
  fI P N full bars fs i (⟨d,.call c,ty,pos,af,none⟩::rest) e s K=(eg N d∧eO P bars fs i ⟨d,.call c,ty,pos,af,none⟩ e s (fy P N full bars fs (i+1) rest e d K)):=(rfl)
theorem qo {P:Program}{N:Nat}{full:List Oper}{bars:List Nat}{fs:cF}{i:Nat}{rest:List Oper}{d:Option Nat}{c a b:Operand}{ty:TypeId}{pos:String}{af:Array Edge}{e:Env}{s:List Obj}{K:Env→List Obj→Prop} :
  fI P N full bars fs i (⟨d,.pick c a b,ty,pos,af,none⟩::rest) e s K=(eg N d∧bars.contains i=false∧fP fs i=none∧pU (ev e c) (fy P N full bars fs (i+1) rest e d K (ev e a)) (fy P N full bars fs (i+1) rest e d K (ev e b)) s):=(rfl)
theorem qg {P:Program}{N:Nat}{full:List Oper}{bars:List Nat}{fs:cF}{i:Nat}{rest:List Oper}{d:Option Nat}{op:Op}{ty:TypeId}{pos:String}{af:Array Edge}{g:Nat}{want:Bool}{e:Env}{s:List Obj}{K:Env→List Obj→Prop} :
  fI P N full bars fs i (⟨d,op,ty,pos,af,some (g,want)⟩::rest) e s K=(eg N d∧A7 (jE full g) want (hA P N full bars fs i rest d ⟨d,op,ty,pos,af,some (g,want)⟩ s K) (hB P N full bars fs i rest d s K) e):=(rfl)
def DZ (P:Program) (e0 x:V) (args:List V) (s:List Obj) (K:V→List Obj→Prop):Prop :=
 match zr e0 x with
 |.cl (.func g) first ak=>av P g (first++args++ak) s K
 |_=>False
theorem te {P:Program}{e0:V}{g:FuncId}{first ak args:List V}{s:List Obj}{K:V→List Obj→Prop}:DZ P e0 (.cl (.func g) first ak) args s K=av P g (first++args++ak) s K:=(rfl)
theorem F1 {P:Program}{e0:V}{g:FuncId}{first ak:List D}{args:List V}{s:List Obj}{K:V→List Obj→Prop}:DZ P e0 (.d (.cl (.func g) first ak)) args s K=av P g (cX.go e0 first++args++cX.go e0 ak) s K:=by
 unfold DZ zr
 simp only[cX]
theorem G1 {e0:V}{fn:Fn}{first ak:List V}:zr e0 (.cl fn first ak)=.cl fn first ak:=(rfl)
theorem KR {e0:V}{fn:Fn}{first ak:List D}:zr e0 (.d (.cl fn first ak))=.cl fn (cX.go e0 first) (cX.go e0 ak):=by
 unfold zr
 simp only[cX]
theorem JX {e0:V}{fn:Fn}:zr e0 (.d (.sc (.func fn ⟨[]⟩ ⟨[]⟩)))=.cl fn [] []:=(rfl)
theorem tO {id g i off b a:Nat}:At (.pp id g i off b a) b a=.pp id g i off b a:=by simp [At]
theorem eZ {e0:V}{b a:Nat}:cX e0 (.sc (.pointer (some ⟨b,a,none⟩)))=At e0 b a:=by simp only[cX]
theorem fH {e0:V}{k:IntKind}{n:Int}:cX e0 (.sc (.int k n))=.d (.sc (.int k n)):=by simp only[cX]
theorem xR {e0:V}{b:Bool}:cX e0 (.sc (.bool b))=.d (.sc (.bool b)):=by simp only[cX]
theorem Ao {e0:V}:cX e0 (.sc (.pointer none))=.d (.sc (.pointer none)):=by simp only[cX]
theorem Da {e0:V}{aV:List (List D)}:cX e0 (.sl aV)=.d (.sl aV):=by simp only[cX]
theorem ej {e0:V}{x:D}:cX e0 (.el [x])=.bx (cX e0 x):=by simp only[cX]
theorem nw {e0:V}{x y:D}{l:List D}:cX e0 (.el (x::y::l))=.d (.el (x::y::l)):=by simp only[cX]
theorem xr {e0:V}{fn:Fn}{first ak:List D}:cX e0 (.cl fn first ak)=.cl fn (cX.go e0 first) (cX.go e0 ak):=by simp only[cX]
theorem dS {e0:V}:cX.go e0 []=[]:=(rfl)
theorem dp {e0:V}{x:D}{l:List D}:cX.go e0 (x::l)=cX e0 x::cX.go e0 l:=(rfl)
theorem Gg {P:Program}{e0:V}{g:FuncId}{args:List V}{s:List Obj}{K:V→List Obj→Prop}:DZ P e0 (.d (.sc (.func (.func g) ⟨[]⟩ ⟨[]⟩))) args s K=av P g ([]++args++[]) s K:=(rfl)
section
variable {P:Program}{d:Option Nat}{ty:TypeId}{pos:String}{af:Array Edge}{g:Option (Nat×Bool)}{e:Nat→V}{s:List Obj}{K:V→List Obj→Prop}
theorem sI {x:Operand}:da P ⟨d,.move x,ty,pos,af,g⟩ e s K=(K (ev e x) s):=(rfl)
theorem oH {x:Operand}:da P ⟨d,.assign x,ty,pos,af,g⟩ e s K=(K (ev e x) s):=(rfl)
theorem tk {c a b:Operand}:da P ⟨d,.pick c a b,ty,pos,af,g⟩ e s K=(pU (ev e c) (K (ev e a)) (K (ev e b)) s):=(rfl)
theorem qa {t:TypeId}:da P ⟨d,.alloc t,ty,pos,af,g⟩ e s K=(m5 P t s K):=(rfl)
theorem wz {t:TypeId}{x:Operand}:da P ⟨d,.box t x,ty,pos,af,g⟩ e s K=(vz s (ev e x) K):=(rfl)
theorem qS {t:TypeId}{parts:Array (Nat×Operand)}:da P ⟨d,.build t parts,ty,pos,af,g⟩ e s K=(m9 P t (parts.toList.map fun p=>(p.1,ev e p.2)) (yV K s)):=(rfl)
theorem jl {t:TypeId}{n:Nat}{parts:Array (Nat×Operand)}:da P ⟨d,.buildSlice t n parts,ty,pos,af,g⟩ e s K=(eT P t n (parts.toList.map fun p=>(p.1,ev e p.2)) s K):=(rfl)
theorem CI {e0:V}{cs:List D}:rG e0 (.d (.el cs))=.d (.el cs):=(rfl)
theorem Cp {e0:V}{id g i off:Nat}:rG e0 (.rf id g i off)=.rf id g i off:=(rfl)
theorem Dh {e0:V}{id g i off b a:Nat}:rG e0 (.pp id g i off b a)=.pp id g i off b a:=(rfl)
theorem Aj {e0:V}{b a:Nat}:rG e0 (.d (.sc (.pointer (some ⟨b,a,none⟩))))=x6 e0 b a:=(rfl)
theorem GZ {id g i off b a:Nat}:x6 (.pp id g i off b a) b a=.rf id g i off:=by simp [x6]
theorem zy {id g i off b a k:Nat}:x6 (.pp id g i off b a) b (a+k)=.rf id g i (off+k):=by simp [x6]
theorem tm {t:TypeId}{a:Operand}:da P ⟨d,.load t a,ty,pos,af,g⟩ e s K=(jv P t s (rG (e 0) (ev e a)) (yV K s)):=(rfl)
theorem qw {t:TypeId}{a x:Operand}:da P ⟨d,.store t a x,ty,pos,af,g⟩ e s K=(fW P t s (ev e a) (ev e x) (RM K)):=(rfl)
theorem wo {x:Operand}:da P ⟨d,.nilCheck x,ty,pos,af,g⟩ e s K=(ic s (ev e x) (yV K s)):=(rfl)
theorem tq {op:BinOp}{t t':TypeId}{x:Operand}{y:Nat}:da P ⟨d,.binOp op t x (.tmp y) t',ty,pos,af,g⟩ e s K=(mM P op t s (ev e x) (ev e (.tmp y)) (yV K s)):=(rfl)
theorem sN {op:BinOp}{t t':TypeId}{x:Operand}{k:IntKind}{y:Int}:da P ⟨d,.binOp op t x (.const (.int k y)) t',ty,pos,af,g⟩ e s K=(mM P op t s (ev e x) (ev e (.const (.int k y))) (yV K s)):=(rfl)
theorem tw {op:BinOp}{t t':TypeId}{x:Operand}{y:Bool}:da P ⟨d,.binOp op t x (.const (.bool y)) t',ty,pos,af,g⟩ e s K=(mM P op t s (ev e x) (ev e (.const (.bool y))) (yV K s)):=(rfl)
theorem tC {op:BinOp}{t t':TypeId}{x:Operand}{y:Option Addr}:da P ⟨d,.binOp op t x (.const (.pointer y)) t',ty,pos,af,g⟩ e s K=(mM P op t s (ev e x) (ev e (.const (.pointer y))) (yV K s)):=(rfl)
theorem sP {op:BinOp}{t t':TypeId}{x:Operand}:da P ⟨d,.binOp op t x (.const (.slice none 0 0)) t',ty,pos,af,g⟩ e s K=(gf P op t (ev e x) (yV K s)):=(rfl)
theorem sD {op:UnOp}{t:TypeId}{x:Operand}:da P ⟨d,.unOp op t x,ty,pos,af,g⟩ e s K=(vX op (ev e x) (yV K s)):=(rfl)
theorem mw {a b:TypeId}{x:Operand}:da P ⟨d,.convert a b x,ty,pos,af,g⟩ e s K=(nm P a b (ev e x) (yV K s)):=(rfl)
theorem kX {fn:Fn}{first ak:Array Operand}:da P ⟨d,.makeFunc fn first ak,ty,pos,af,g⟩ e s K=(K (.cl fn (first.toList.map (ev e)) (ak.toList.map (ev e))) s):=(rfl)
theorem ke {t:TypeId}{l c:Operand}:da P ⟨d,.makeSlice t l c,ty,pos,af,g⟩ e s K=(fw P t (ev e l) (ev e c) s K):=(rfl)
theorem qE {t:TypeId}{x:Operand}{lo hi mx:Option Operand}:da P ⟨d,.slice t x lo hi mx,ty,pos,af,g⟩ e s K=(jh P t (ev e x) (lo.map (ev e)) (hi.map (ev e)) (mx.map (ev e)) s (yV K s)):=(rfl)
theorem jV {t:TypeId}{x:Operand}{f:Nat}:da P ⟨d,.fieldAddr t x f,ty,pos,af,g⟩ e s K=(ez P t s (ev e x) f (yV K s)):=(rfl)
theorem qc {t:TypeId}{x:Operand}{f:Nat}:da P ⟨d,.field t x f,ty,pos,af,g⟩ e s K=(jU P t (ev e x) f (yV K s)):=(rfl)
theorem kd {t:TypeId}{x i:Operand}:da P ⟨d,.indexAddr t x i,ty,pos,af,g⟩ e s K=(dF P t s (ev e x) (ev e i) (yV K s)):=(rfl)
theorem mo {t:TypeId}{r:Option Operand}:da P ⟨d,.makeMap t r,ty,pos,af,g⟩ e s K=(lj P t r s K):=(rfl)
theorem n6 {t:TypeId}{x i:Operand}:da P ⟨d,.lookup t x i false,ty,pos,af,g⟩ e s K=(gJ P t s (ev e x) (ev e i) (yV K s)):=(rfl)
theorem kg {t:TypeId}{m k x:Operand}:da P ⟨d,.mapUpdate t m k x,ty,pos,af,g⟩ e s K=(rv P t s (ev e m) (ev e k) (ev e x) (RM K)):=(rfl)
theorem ow {t:TypeId}{m k x:Operand}:da P ⟨d,.insert t m k x,ty,pos,af,g⟩ e s K=(rv P t s (ev e m) (ev e k) (ev e x) (RM K)):=(rfl)
theorem qs {t:TypeId}{x i:Operand}:da P ⟨d,.index t x i,ty,pos,af,g⟩ e s K=(iz P t (ev e x) (ev e i) (yV K s)):=(rfl)
theorem mL {x:Operand}{i:Nat}:da P ⟨d,.extract x i,ty,pos,af,g⟩ e s K=(sx (ev e x) i (yV K s)):=(rfl)
theorem sB {f:FuncId}{args:Array Operand}{Lm:Array TypeId}:da P ⟨d,.call ⟨.value (.func f),args,Lm⟩,ty,pos,af,g⟩ e s K=(av P f (args.toList.map (ev e)) s K):=(rfl)
theorem qz {f:Nat}{args:Array Operand}{Lm:Array TypeId}:da P ⟨d,.call ⟨.value (.tmp f),args,Lm⟩,ty,pos,af,g⟩ e s K=(DZ P (e 0) (e f) (args.toList.map (ev e)) s K):=(rfl)
theorem wy {x:Operand}{t:TypeId}:da P ⟨d,.call ⟨.builtin .len,#[x],#[t]⟩,ty,pos,af,g⟩ e s K=(js P t (ev e x) s (yV K s)):=(rfl)
theorem n7 {a x:Operand}{t t':TypeId}:da P ⟨d,.call ⟨.builtin .append,#[a,x],#[t,t']⟩,ty,pos,af,g⟩ e s K=(t=t'∧dG P t (ev e a) (ev e x) s K):=(rfl)
theorem tj {a x:Operand}{t t':TypeId}:da P ⟨d,.call ⟨.builtin .copy,#[a,x],#[t,t']⟩,ty,pos,af,g⟩ e s K=(t=t'∧pg P t (ev e a) (ev e x) s K):=(rfl)
theorem qf {x:Operand}{t:TypeId}:da P ⟨d,.call ⟨.builtin .clear,#[x],#[t]⟩,ty,pos,af,g⟩ e s K=(kU P t (ev e x) s K):=(rfl)
theorem wv {x y:Operand}{Lm:Array TypeId}:da P ⟨d,.call ⟨.builtin .min,#[x,y],Lm⟩,ty,pos,af,g⟩ e s K=(eQ true (ev e x) [ev e y] (yV K s)):=(rfl)
theorem wO {x y:Operand}{Lm:Array TypeId}:da P ⟨d,.call ⟨.builtin .max,#[x,y],Lm⟩,ty,pos,af,g⟩ e s K=(eQ false (ev e x) [ev e y] (yV K s)):=(rfl)
end
theorem qt {cs:List V}:ep (.ag cs)=some cs:=(rfl)
theorem sZ {x:D}:ep (.d x)=some [.d x]:=(rfl)
theorem qW {aV:List (List D)}:ep (.fu aV)=some [.fu aV]:=(rfl)
theorem pX {id g lo n:Nat}:ep (.so id g lo n)=some [.so id g lo n]:=(rfl)
theorem qF {id g i off:Nat}:ep (.rf id g i off)=some [.rf id g i off]:=(rfl)
theorem qC {fn:Fn}{a b:List V}:ep (.cl fn a b)=some [.cl fn a b]:=(rfl)
theorem AV {P:Program}{f:FuncId} (k:Nat) {cargs args:List V}{s:List Obj}{o o':Obj}{r r':V}{K:V→List Obj→Prop} (h:av P f cargs [o] fun v s'=>v=r∧s'=[o']) (ha:args=cargs.map (bF [k])) (td:ao.go 1 cargs=true)
  (hoo:cU 1 o=true) (ho:s[k]?=some (bX [k] o)) (hr:bF [k] r=r') (hk:K r' (s.set k (bX [k] o'))):av P f args s K:=by
 refine rO h [k] rfl (by simp) (fun j ob hj=>?_) ha td (by simp [hoo]) fun v s' hv=>?_
 ·cases j with
  |zero=>simp at hj;subst hj;simpa using ho
  |succ j=>simp at hj
 ·obtain⟨rfl,rfl⟩:=hv
  refine⟨rfl,?_⟩
  rw[hr]
  simpa [aZ]using hk
def lR (cb:List Nat) (e:Env):Env:=fun t=>if cb.contains t then e t else .any
theorem zV {cb:List Nat}{e:Env}{t:Nat}:lR cb e t=if cb.contains t then e t else .any:=(rfl)
theorem dw.cut {L:Nat}{e:Env}{s s':List Obj} (cE:Nat) (hL:L≤cE) (hs:s.take cE=s') (ho:s'.all (cU cE)=true) (cb:List Nat) (hk:cb.all (fun t=>ao cE (e t))=true):dw L e s (lR cb e) s':=by
 subst hs
 intro σ0 s0 w0 σ w N a ij hE hI hR
 refine⟨σ,hE.take (by omega),hI.take ho,hR.1,hR.2.1,fun t=>?_⟩
 unfold lR
 split
 ·rename_i ht
  rw[Xn]at hk
  exact(hR.2.2 t).take (hk t (by simpa using ht))
 ·exact .any
theorem S9:type_of% (
 And.intro @mF <|
 And.intro @kj <|
 And.intro @mU <|
 And.intro @oe <|
 And.intro @oD <|
 And.intro @kQ <|
 And.intro @mN <|
 And.intro @oC <|
 And.intro @qD <|
 And.intro @qe <|
 And.intro @qj <|
 And.intro @Bs <|
 And.intro @Bv <|
 And.intro @Bp <|
 And.intro @Bq <|
 And.intro @mB <|
 And.intro @qU <|
 And.intro @qd <|
 And.intro @qT <|
 And.intro @qP <|
 And.intro @qX <|
 And.intro @uR <|
 And.intro @uL <|
 And.intro @r7 <|
 And.intro @rK <|
 And.intro @oa <|
 And.intro @m8 <|
 And.intro @u6 <|
 And.intro @qy <|
 And.intro @oK <|
 And.intro @mS <|
 And.intro @zR <|
 And.intro @qk <|
 And.intro @v9 <|
 And.intro @wg <|
 And.intro @te <|
 And.intro @tD <|
 And.intro @Bh <|
 And.intro @mV <|
 And.intro @sV <|
 And.intro @qN <|
 And.intro @mC <|
 And.intro @tS <|
 And.intro @qL <|
 And.intro @tb <|
 And.intro @qA <|
 And.intro @mE <|
 And.intro @oG <|
 And.intro @sS <|
 And.intro @oy <|
 And.intro @iC <|
 And.intro @qO <|
 And.intro @kL <|
 And.intro @mK <|
 And.intro @jb <|
 And.intro @oA <|
 And.intro @tN <|
 And.intro @sO <|
 And.intro @qH <|
 And.intro @kR <|
 And.intro @kf <|
 And.intro @jc <|
 And.intro @ot <|
 And.intro @jo <|
 And.intro @oB <|
 And.intro @jj <|
 And.intro @oL <|
 And.intro @kS <|
 And.intro @pZ <|
 And.intro @qo <|
 And.intro @qg <|
 And.intro @qR <|
 And.intro @qV <|
 And.intro @sI <|
 And.intro @oH <|
 And.intro @tk <|
 And.intro @qa <|
 And.intro @wz <|
 And.intro @qS <|
 And.intro @jl <|
 And.intro @tm <|
 And.intro @mo <|
 And.intro @n6 <|
 And.intro @kg <|
 And.intro @ow <|
 And.intro @qw <|
 And.intro @wo <|
 And.intro @tq <|
 And.intro @sN <|
 And.intro @tw <|
 And.intro @tC <|
 And.intro @sP <|
 And.intro @sH <|
 And.intro @sD <|
 And.intro @mw <|
 And.intro @kX <|
 And.intro @ke <|
 And.intro @qE <|
 And.intro @jV <|
 And.intro @qc <|
 And.intro @kd <|
 And.intro @qs <|
 And.intro @mL <|
 And.intro @sB <|
 And.intro @qz <|
 And.intro @wy <|
 And.intro @n7 <|
 And.intro @tj <|
 And.intro @qf <|
 And.intro @wv <|
 And.intro @wO <|
 And.intro @tQ <|
 And.intro @ll <|
 And.intro @jO <|
 And.intro @ba <|
 And.intro @qt <|
 And.intro @sZ <|
 And.intro @qW <|
 And.intro @pX <|
 And.intro @qF <|
 And.intro @qC <|
 And.intro @true_and <|
 And.intro @and_true <|
 And.intro @true_or <|
 And.intro @or_true <|
 And.intro @Bool.not_true <|
 And.intro @Bool.not_false <|
 And.intro @false_or <|
 And.intro @or_false <|
 And.intro @decide_eq_true_eq <|
 And.intro @true_imp_iff <|
 And.intro @false_imp_iff <|
 And.intro @not_true_eq_false <|
 And.intro @not_false_eq_true <|
 And.intro @decide_eq_false_iff_not <|
 And.intro @Bool.and_self <|
 And.intro @Bool.or_false <|
 And.intro @Bool.false_or <|
 And.intro @Bool.or_true <|
 And.intro @Bool.true_or <|
 And.intro @Bool.and_true <|
 And.intro @Bool.true_and <|
 And.intro @Int.toNat_natCast <|
 And.intro @Int.ofNat_lt <|
 And.intro @Int.natCast_nonneg <|
 And.intro @decide_true <|
 And.intro @decide_false <|
 And.intro @V.d.injEq <|
 And.intro @D.sc.injEq <|
 And.intro @Go.Value.int.injEq <|
 @Go.Value.bool.injEq) :=
 And.intro @mF <|
 And.intro @kj <|
 And.intro @mU <|
 And.intro @oe <|
 And.intro @oD <|
 And.intro @kQ <|
 And.intro @mN <|
 And.intro @oC <|
 And.intro @qD <|
 And.intro @qe <|
 And.intro @qj <|
 And.intro @Bs <|
 And.intro @Bv <|
 And.intro @Bp <|
 And.intro @Bq <|
 And.intro @mB <|
 And.intro @qU <|
 And.intro @qd <|
 And.intro @qT <|
 And.intro @qP <|
 And.intro @qX <|
 And.intro @uR <|
 And.intro @uL <|
 And.intro @r7 <|
 And.intro @rK <|
 And.intro @oa <|
 And.intro @m8 <|
 And.intro @u6 <|
 And.intro @qy <|
 And.intro @oK <|
 And.intro @mS <|
 And.intro @zR <|
 And.intro @qk <|
 And.intro @v9 <|
 And.intro @wg <|
 And.intro @te <|
 And.intro @tD <|
 And.intro @Bh <|
 And.intro @mV <|
 And.intro @sV <|
 And.intro @qN <|
 And.intro @mC <|
 And.intro @tS <|
 And.intro @qL <|
 And.intro @tb <|
 And.intro @qA <|
 And.intro @mE <|
 And.intro @oG <|
 And.intro @sS <|
 And.intro @oy <|
 And.intro @iC <|
 And.intro @qO <|
 And.intro @kL <|
 And.intro @mK <|
 And.intro @jb <|
 And.intro @oA <|
 And.intro @tN <|
 And.intro @sO <|
 And.intro @qH <|
 And.intro @kR <|
 And.intro @kf <|
 And.intro @jc <|
 And.intro @ot <|
 And.intro @jo <|
 And.intro @oB <|
 And.intro @jj <|
 And.intro @oL <|
 And.intro @kS <|
 And.intro @pZ <|
 And.intro @qo <|
 And.intro @qg <|
 And.intro @qR <|
 And.intro @qV <|
 And.intro @sI <|
 And.intro @oH <|
 And.intro @tk <|
 And.intro @qa <|
 And.intro @wz <|
 And.intro @qS <|
 And.intro @jl <|
 And.intro @tm <|
 And.intro @mo <|
 And.intro @n6 <|
 And.intro @kg <|
 And.intro @ow <|
 And.intro @qw <|
 And.intro @wo <|
 And.intro @tq <|
 And.intro @sN <|
 And.intro @tw <|
 And.intro @tC <|
 And.intro @sP <|
 And.intro @sH <|
 And.intro @sD <|
 And.intro @mw <|
 And.intro @kX <|
 And.intro @ke <|
 And.intro @qE <|
 And.intro @jV <|
 And.intro @qc <|
 And.intro @kd <|
 And.intro @qs <|
 And.intro @mL <|
 And.intro @sB <|
 And.intro @qz <|
 And.intro @wy <|
 And.intro @n7 <|
 And.intro @tj <|
 And.intro @qf <|
 And.intro @wv <|
 And.intro @wO <|
 And.intro @tQ <|
 And.intro @ll <|
 And.intro @jO <|
 And.intro @ba <|
 And.intro @qt <|
 And.intro @sZ <|
 And.intro @qW <|
 And.intro @pX <|
 And.intro @qF <|
 And.intro @qC <|
 And.intro @true_and <|
 And.intro @and_true <|
 And.intro @true_or <|
 And.intro @or_true <|
 And.intro @Bool.not_true <|
 And.intro @Bool.not_false <|
 And.intro @false_or <|
 And.intro @or_false <|
 And.intro @decide_eq_true_eq <|
 And.intro @true_imp_iff <|
 And.intro @false_imp_iff <|
 And.intro @not_true_eq_false <|
 And.intro @not_false_eq_true <|
 And.intro @decide_eq_false_iff_not <|
 And.intro @Bool.and_self <|
 And.intro @Bool.or_false <|
 And.intro @Bool.false_or <|
 And.intro @Bool.or_true <|
 And.intro @Bool.true_or <|
 And.intro @Bool.and_true <|
 And.intro @Bool.true_and <|
 And.intro @Int.toNat_natCast <|
 And.intro @Int.ofNat_lt <|
 And.intro @Int.natCast_nonneg <|
 And.intro @decide_true <|
 And.intro @decide_false <|
 And.intro @V.d.injEq <|
 And.intro @D.sc.injEq <|
 And.intro @Go.Value.int.injEq <|
 @Go.Value.bool.injEq
theorem je {α β:Type}{A B:α→β→Prop}{e:α}{s:β}{p:Prop} [Decidable p] (h:p→A e s) (k:¬p→B e s):lT (.d (.sc (.bool (decide p)))) A B e s:=by
 rw[u6];exact⟨h,k⟩
theorem gi {α β:Type}{A B:α→β→Prop}{e:α}{s:β}{b:Bool} (h:b=true→A e s) (k:b=false→B e s):lT (.d (.sc (.bool b))) A B e s:=by
 rw[Hh];exact⟨h,k⟩
theorem dR {d:Nat}{A B:Env→Prop}{e:Env}{p:Prop} [Decidable p] (h:p→A (bW e d (.d (.sc (.bool true))))) (k:¬p→B (bW e d (.d (.sc (.bool false))))):eA (.d (.sc (.bool (decide p)))) d true A B e:=by
 rw[uR];exact⟨h,k⟩
theorem dQ {d:Nat}{A B:Env→Prop}{e:Env}{p:Prop} [Decidable p] (h:p→B (bW e d (.d (.sc (.bool true))))) (k:¬p→A (bW e d (.d (.sc (.bool false))))):eA (.d (.sc (.bool (decide p)))) d false A B e:=by
 rw[uL];exact⟨h,k⟩
theorem de {d:Nat}{A B:Env→Prop}{e:Env}{p:Prop} [Decidable p] (h:p→B (bW e d (.d (.sc (.bool false))))) (k:¬p→A (bW e d (.d (.sc (.bool true))))):eA (.d (.sc (.bool (!decide p)))) d true A B e:=by
 rw[r7];exact⟨h,k⟩
theorem dh {d:Nat}{A B:Env→Prop}{e:Env}{p:Prop} [Decidable p] (h:p→A (bW e d (.d (.sc (.bool false))))) (k:¬p→B (bW e d (.d (.sc (.bool true))))):eA (.d (.sc (.bool (!decide p)))) d false A B e:=by
 rw[rK];exact⟨h,k⟩
theorem dP {d:Nat}{w:Bool}{A B:Env→Prop}{e:Env}{b:Bool} (h:b=true→eA (.d (.sc (.bool true))) d w A B e) (k:b=false→eA (.d (.sc (.bool false))) d w A B e):eA (.d (.sc (.bool b))) d w A B e:=by
 cases b
 ·exact k rfl
 ·exact h rfl
theorem CM {α:Type}{x:α}:(some x).toArray.toList=[x]:=(rfl)
theorem Dr {α:Type}:(none:Option α).toArray.toList=[]:=(rfl)
theorem tA {f:Operand→V}:Option.map f none=none:=(rfl)
theorem Ap {d:Int}:vI none d=some d:=(rfl)
theorem D6 {k:IntKind}{n d:Int}:vI (some (.d (.sc (.int k n)))) d=some n:=(rfl)
theorem BU:type_of% (
 And.intro @CM <|
 And.intro @Dr <|
 And.intro @Ap <|
 And.intro @D6 <|
 And.intro @tA <|
 And.intro @mF <|
 And.intro @kj <|
 And.intro @mU <|
 And.intro @oe <|
 And.intro @oD <|
 And.intro @kQ <|
 And.intro @mN <|
 And.intro @oC <|
 And.intro @qD <|
 And.intro @qe <|
 And.intro @qj <|
 And.intro @Bs <|
 And.intro @Bv <|
 And.intro @Bp <|
 And.intro @Bq <|
 And.intro @mB <|
 And.intro @qU <|
 And.intro @qd <|
 And.intro @qT <|
 And.intro @qP <|
 And.intro @qX <|
 And.intro @oa <|
 And.intro @m8 <|
 And.intro @qy <|
 And.intro @oK <|
 And.intro @mS <|
 And.intro @qk <|
 And.intro @v9 <|
 And.intro @wg <|
 And.intro @te <|
 And.intro @tD <|
 And.intro @Bh <|
 And.intro @mV <|
 And.intro @sV <|
 And.intro @qN <|
 And.intro @mC <|
 And.intro @tS <|
 And.intro @qL <|
 And.intro @tb <|
 And.intro @qA <|
 And.intro @mE <|
 And.intro @oG <|
 And.intro @sS <|
 And.intro @oy <|
 And.intro @iC <|
 And.intro @qO <|
 And.intro @kL <|
 And.intro @mK <|
 And.intro @jb <|
 And.intro @oA <|
 And.intro @tN <|
 And.intro @sO <|
 And.intro @qH <|
 And.intro @kR <|
 And.intro @kf <|
 And.intro @jc <|
 And.intro @ot <|
 And.intro @jo <|
 And.intro @oB <|
 And.intro @jj <|
 And.intro @oL <|
 And.intro @kS <|
 And.intro @pZ <|
 And.intro @qo <|
 And.intro @qg <|
 And.intro @qR <|
 And.intro @qV <|
 And.intro @sI <|
 And.intro @oH <|
 And.intro @tk <|
 And.intro @qa <|
 And.intro @wz <|
 And.intro @qS <|
 And.intro @jl <|
 And.intro @tm <|
 And.intro @mo <|
 And.intro @n6 <|
 And.intro @kg <|
 And.intro @ow <|
 And.intro @qw <|
 And.intro @wo <|
 And.intro @tq <|
 And.intro @sN <|
 And.intro @tw <|
 And.intro @tC <|
 And.intro @sP <|
 And.intro @sH <|
 And.intro @sD <|
 And.intro @mw <|
 And.intro @kX <|
 And.intro @ke <|
 And.intro @qE <|
 And.intro @jV <|
 And.intro @qc <|
 And.intro @kd <|
 And.intro @qs <|
 And.intro @mL <|
 And.intro @sB <|
 And.intro @qz <|
 And.intro @wy <|
 And.intro @n7 <|
 And.intro @tj <|
 And.intro @qf <|
 And.intro @wv <|
 And.intro @wO <|
 And.intro @tQ <|
 And.intro @ll <|
 And.intro @jO <|
 And.intro @ba <|
 And.intro @qt <|
 And.intro @sZ <|
 And.intro @qW <|
 And.intro @pX <|
 And.intro @qF <|
 And.intro @qC <|
 And.intro @true_and <|
 And.intro @and_true <|
 And.intro @true_or <|
 And.intro @or_true <|
 And.intro @Bool.not_true <|
 And.intro @Bool.not_false <|
 And.intro @false_or <|
 And.intro @or_false <|
 And.intro @decide_eq_true_eq <|
 And.intro @true_imp_iff <|
 And.intro @false_imp_iff <|
 And.intro @not_true_eq_false <|
 And.intro @not_false_eq_true <|
 And.intro @decide_eq_false_iff_not <|
 And.intro @Bool.and_self <|
 And.intro @Bool.or_false <|
 And.intro @Bool.false_or <|
 And.intro @Bool.or_true <|
 And.intro @Bool.true_or <|
 And.intro @Bool.and_true <|
 And.intro @Bool.true_and <|
 And.intro @Int.toNat_natCast <|
 And.intro @Int.ofNat_lt <|
 And.intro @Int.natCast_nonneg <|
 And.intro @decide_true <|
 And.intro @decide_false <|
 And.intro @V.d.injEq <|
 And.intro @D.sc.injEq <|
 And.intro @Go.Value.int.injEq <|
 @Go.Value.bool.injEq) :=
 And.intro @CM <|
 And.intro @Dr <|
 And.intro @Ap <|
 And.intro @D6 <|
 And.intro @tA <|
 And.intro @mF <|
 And.intro @kj <|
 And.intro @mU <|
 And.intro @oe <|
 And.intro @oD <|
 And.intro @kQ <|
 And.intro @mN <|
 And.intro @oC <|
 And.intro @qD <|
 And.intro @qe <|
 And.intro @qj <|
 And.intro @Bs <|
 And.intro @Bv <|
 And.intro @Bp <|
 And.intro @Bq <|
 And.intro @mB <|
 And.intro @qU <|
 And.intro @qd <|
 And.intro @qT <|
 And.intro @qP <|
 And.intro @qX <|
 And.intro @oa <|
 And.intro @m8 <|
 And.intro @qy <|
 And.intro @oK <|
 And.intro @mS <|
 And.intro @qk <|
 And.intro @v9 <|
 And.intro @wg <|
 And.intro @te <|
 And.intro @tD <|
 And.intro @Bh <|
 And.intro @mV <|
 And.intro @sV <|
 And.intro @qN <|
 And.intro @mC <|
 And.intro @tS <|
 And.intro @qL <|
 And.intro @tb <|
 And.intro @qA <|
 And.intro @mE <|
 And.intro @oG <|
 And.intro @sS <|
 And.intro @oy <|
 And.intro @iC <|
 And.intro @qO <|
 And.intro @kL <|
 And.intro @mK <|
 And.intro @jb <|
 And.intro @oA <|
 And.intro @tN <|
 And.intro @sO <|
 And.intro @qH <|
 And.intro @kR <|
 And.intro @kf <|
 And.intro @jc <|
 And.intro @ot <|
 And.intro @jo <|
 And.intro @oB <|
 And.intro @jj <|
 And.intro @oL <|
 And.intro @kS <|
 And.intro @pZ <|
 And.intro @qo <|
 And.intro @qg <|
 And.intro @qR <|
 And.intro @qV <|
 And.intro @sI <|
 And.intro @oH <|
 And.intro @tk <|
 And.intro @qa <|
 And.intro @wz <|
 And.intro @qS <|
 And.intro @jl <|
 And.intro @tm <|
 And.intro @mo <|
 And.intro @n6 <|
 And.intro @kg <|
 And.intro @ow <|
 And.intro @qw <|
 And.intro @wo <|
 And.intro @tq <|
 And.intro @sN <|
 And.intro @tw <|
 And.intro @tC <|
 And.intro @sP <|
 And.intro @sH <|
 And.intro @sD <|
 And.intro @mw <|
 And.intro @kX <|
 And.intro @ke <|
 And.intro @qE <|
 And.intro @jV <|
 And.intro @qc <|
 And.intro @kd <|
 And.intro @qs <|
 And.intro @mL <|
 And.intro @sB <|
 And.intro @qz <|
 And.intro @wy <|
 And.intro @n7 <|
 And.intro @tj <|
 And.intro @qf <|
 And.intro @wv <|
 And.intro @wO <|
 And.intro @tQ <|
 And.intro @ll <|
 And.intro @jO <|
 And.intro @ba <|
 And.intro @qt <|
 And.intro @sZ <|
 And.intro @qW <|
 And.intro @pX <|
 And.intro @qF <|
 And.intro @qC <|
 And.intro @true_and <|
 And.intro @and_true <|
 And.intro @true_or <|
 And.intro @or_true <|
 And.intro @Bool.not_true <|
 And.intro @Bool.not_false <|
 And.intro @false_or <|
 And.intro @or_false <|
 And.intro @decide_eq_true_eq <|
 And.intro @true_imp_iff <|
 And.intro @false_imp_iff <|
 And.intro @not_true_eq_false <|
 And.intro @not_false_eq_true <|
 And.intro @decide_eq_false_iff_not <|
 And.intro @Bool.and_self <|
 And.intro @Bool.or_false <|
 And.intro @Bool.false_or <|
 And.intro @Bool.or_true <|
 And.intro @Bool.true_or <|
 And.intro @Bool.and_true <|
 And.intro @Bool.true_and <|
 And.intro @Int.toNat_natCast <|
 And.intro @Int.ofNat_lt <|
 And.intro @Int.natCast_nonneg <|
 And.intro @decide_true <|
 And.intro @decide_false <|
 And.intro @V.d.injEq <|
 And.intro @D.sc.injEq <|
 And.intro @Go.Value.int.injEq <|
 @Go.Value.bool.injEq
def Acc (base:List Obj) (sz:Nat) (v:V) (s:List Obj) (l:List (List D)):Prop :=
 (v=.fu l∧s=base)∨∃g,v=.so base.length g 0 l.length∧s=base++[⟨g,true,sz,l.map (·.map .d)⟩]
theorem Acc.append {P:Program}{t et:TypeId}{i:Lw}{base:List Obj}{sz:Nat}{v:V}{s:List Obj}{l ns:List (List D)}{K:V→List Obj→Prop} (ha:Acc base sz v s l) (ht:kN P t=some (et,i)) (hz:i.sz=sz) (h0:0<sz) (hb:0<i.F2)
  (hl:∀e∈l,e.length=sz) (hn:∀e∈ns,e.length=sz) (gr:0<ns.length) (iB:(l.length+ns.length)*i.F2≤140737488355328) (hk:∀v' s',Acc base sz v' s' (l++ns)→K v' s'):dG P t v (.fu ns) s K:=by
 subst hz
 have Mt:∀e∈ns.map (fun (e:List D)=>e.map V.d),e.length=i.sz:=by
  intro e he
  obtain⟨d,hd,rfl⟩:=List.mem_map.1 he
  simpa using hn d hd
 unfold dG
 simp only[ht,iS]
 refine⟨⟨Mt,h0,hb⟩,?_⟩
 rcases ha with ⟨rfl,rfl⟩|⟨g,rfl,rfl⟩
 ·simp only
  refine⟨⟨.inr (by simpa using gr),by simpa using iB,hl⟩,?_⟩
  have:=hk (.so s.length 0 0 (l++ns).length) (s++[⟨0,true,i.sz,(l++ns).map (·.map .d)⟩]) (.inr ⟨0,rfl,rfl⟩)
  simpa [XC]using this
 ·simp only[qZ]
  rw[Xm (W4 _),X3]
  simp only[W9,true_and]
  refine⟨⟨by simp,by simpa using iB⟩,?_⟩
  have:=hk (.so base.length (g+1) 0 (l++ns).length) (base++[⟨g+1,true,i.sz,(l++ns).map (·.map .d)⟩]) (.inr ⟨g+1,rfl,rfl⟩)
  have he:((l.map (fun (e:List D)=>e.map V.d)).take l.length)=l.map (fun (e:List D)=>e.map V.d):=Xv (by simp)
  simp only[X1,W1,he]
  rw[List.set_append_right _ _ (W4 _),X3]
  simpa [XC]using this
theorem zO (f:V→Option D) (hf:∀x,f (.d x)=some x):∀l:List (List D),((l.map fun c=>c.map V.d).mapM fun (e:List V)=>e.mapM f)=some l
 |[]=>rfl
 |c::l=>by
  have h1:∀c:List D,(c.map V.d).mapM f=some c:=by
   intro c
   induction c with
   |nil=>rfl
   |cons x c ih=>rw[WU,X5,hf,ih];rfl
  rw[WU,X5,h1,zO f hf l];rfl
theorem Acc.Rx {base:List Obj}{sz:Nat}{v:V}{s:List Obj}{l:List (List D)}{cE:Nat} (ha:Acc base sz v s l) (h:cE≤base.length):aR cE s v=some (.d (.sl l)):=by
 rcases ha with ⟨rfl,rfl⟩|⟨g,rfl,rfl⟩
 ·rfl
 ·simp only[aR,bN]
  rw[Xm (W4 _),X3]
  simp only[W9,true_and]
  rw[if_pos ⟨by simp,.inl h⟩]
  have he:((l.map (fun (e:List D)=>e.map V.d)).take l.length)=l.map (fun (e:List D)=>e.map V.d):=Xv (by simp)
  rw[X1,he,zO _ (fun x=>rfl) l]
  rfl
theorem Acc.get {base:List Obj}{sz:Nat}{v:V}{s:List Obj}{l:List (List D)} (ha:Acc base sz v s l) {id:Nat}{o:Obj} (h:base[id]?=some o):s[id]?=some o:=by
 rcases ha with ⟨rfl,rfl⟩|⟨g,rfl,rfl⟩
 ·exact h
 ·rw[Xg (List.getElem?_eq_some_iff.1 h).1];exact h
theorem D2 {e:Env}{d t:Nat}{v:V}:bW e d v t=if t=d then v else e t:=(rfl)
theorem zl:type_of% (
 And.intro @eq_self.{1} <|
 And.intro @hole.eq_1 <|
 And.intro @eO.eq_1 <|
 And.intro @jC.eq_1 <|
 And.intro @fP.eq_1 <|
 And.intro @fP.eq_2 <|
 And.intro @Bz.eq_1 <|
 And.intro @Bz.eq_2 <|
 And.intro @AS.eq_1 <|
 And.intro @MO.eq_1 <|
 And.intro @H9.eq_1 <|
 And.intro @n8.eq_1 <|
 And.intro @I5.eq_1 <|
 And.intro @fk.eq_1 <|
 And.intro @fk.eq_2 <|
 And.intro @fk.eq_3 <|
 And.intro @fk.eq_4 <|
 And.intro @fk.eq_5 <|
 And.intro @Go.Op.operands.eq_1 <|
 And.intro @Go.Op.operands.eq_2 <|
 And.intro @Go.Op.operands.eq_3 <|
 And.intro @Go.Op.operands.eq_4 <|
 And.intro @Go.Op.operands.eq_5 <|
 And.intro @Go.Op.operands.eq_6 <|
 And.intro @Go.Op.operands.eq_7 <|
 And.intro @Go.Op.operands.eq_8 <|
 And.intro @Go.Op.operands.eq_9 <|
 And.intro @Go.Op.operands.eq_10 <|
 And.intro @Go.Op.operands.eq_11 <|
 And.intro @Go.Op.operands.eq_12 <|
 And.intro @Go.Op.operands.eq_13 <|
 And.intro @Go.Op.operands.eq_14 <|
 And.intro @Go.Op.operands.eq_15 <|
 And.intro @Go.Op.operands.eq_16 <|
 And.intro @Go.Op.operands.eq_17 <|
 And.intro @Go.Op.operands.eq_18 <|
 And.intro @Go.Op.operands.eq_19 <|
 And.intro @Go.Op.operands.eq_20 <|
 And.intro @Go.Op.operands.eq_21 <|
 And.intro @Go.Op.operands.eq_22 <|
 And.intro @Go.Op.operands.eq_23 <|
 And.intro @Go.Op.operands.eq_24 <|
 And.intro @Go.Op.operands.eq_25 <|
 And.intro @Go.Op.operands.eq_26 <|
 And.intro @Go.Op.operands.eq_27 <|
 And.intro @Go.Op.operands.eq_28 <|
 And.intro @Go.Op.operands.eq_29 <|
 And.intro @Go.Op.operands.eq_30 <|
 And.intro @Go.Op.operands.eq_31 <|
 And.intro @Go.Op.operands.eq_32 <|
 And.intro @Go.Op.operands.eq_33 <|
 And.intro @Go.Op.operands.eq_34 <|
 And.intro @Go.Op.operands.eq_35 <|
 And.intro @Go.Op.operands.eq_36 <|
 And.intro @Go.Op.operands.eq_37 <|
 And.intro @Go.Op.operands.eq_38 <|
 And.intro @Go.Op.operands.eq_39 <|
 And.intro @Go.Op.operands.eq_40 <|
 And.intro @Go.Op.operands.eq_41 <|
 And.intro @Go.Op.operands.eq_42 <|
 And.intro @Go.Op.operands.eq_43 <|
 And.intro @Go.Call.operands.eq_1 <|
 And.intro @Array.toList_append.{0} <|
 And.intro @gf.eq_1 <|
 And.intro @gf.eq_2 <|
 And.intro @gf.eq_3 <|
 And.intro @gf.eq_4 <|
 And.intro @gf.eq_5 <|
 And.intro @vR.eq_1 <|
 And.intro @vR.eq_2 <|
 And.intro @vR.eq_3 <|
 And.intro @jE.eq_1 <|
 And.intro @eg.eq_1 <|
 And.intro @eg.eq_2 <|
 And.intro @gE.eq_1 <|
 And.intro @gE.eq_2 <|
 And.intro @D2 <|
 And.intro @ev.eq_1 <|
 And.intro @ev.eq_2 <|
 And.intro @ev.eq_3 <|
 And.intro @ev.eq_4 <|
 And.intro @N4.eq_1 <|
 And.intro @N4.eq_2 <|
 And.intro @cv.eq_1 <|
 And.intro @cv.eq_2 <|
 And.intro @cv.eq_3 <|
 And.intro @cv.eq_4 <|
 And.intro @mM.eq_1 <|
 And.intro @m6.eq_1 <|
 And.intro @m6.eq_2 <|
 And.intro @m6.eq_3 <|
 And.intro @oP.eq_1 <|
 And.intro @oP.eq_2 <|
 And.intro @dy.eq_1 <|
 And.intro @dy.eq_2 <|
 And.intro @dy.eq_3 <|
 And.intro @dy.eq_4 <|
 And.intro @dy.eq_5 <|
 And.intro @dy.eq_6 <|
 And.intro @dy.eq_7 <|
 And.intro @dy.eq_8 <|
 And.intro @dy.eq_9 <|
 And.intro @dy.eq_10 <|
 And.intro @dy.eq_11 <|
 And.intro @dy.eq_12 <|
 And.intro @eK.eq_1 <|
 And.intro @eK.eq_2 <|
 And.intro @eK.eq_3 <|
 And.intro @eK.eq_4 <|
 And.intro @eK.eq_5 <|
 And.intro @eK.eq_6 <|
 And.intro @eK.eq_7 <|
 And.intro @eK.eq_8 <|
 And.intro @eK.eq_9 <|
 And.intro @eK.eq_10 <|
 And.intro @eK.eq_11 <|
 And.intro @eK.eq_12 <|
 And.intro @eK.eq_13 <|
 And.intro @eK.eq_14 <|
 And.intro @eK.eq_15 <|
 And.intro @vX.eq_1 <|
 And.intro @vX.eq_2 <|
 And.intro @vX.eq_3 <|
 And.intro @ic.eq_1 <|
 And.intro @ic.eq_2 <|
 And.intro @ic.eq_3 <|
 And.intro @ic.eq_4 <|
 And.intro @ic.eq_5 <|
 And.intro @ic.eq_6 <|
 And.intro @xf.eq_1 <|
 And.intro @AJ.eq_1 <|
 And.intro @AJ.eq_2 <|
 And.intro @Fv.eq_1 <|
 And.intro @Fv.eq_2 <|
 And.intro @Gt.eq_1 <|
 And.intro @aR.eq_1 <|
 And.intro @aR.eq_2 <|
 And.intro @aR.eq_3 <|
 And.intro @aR.eq_4 <|
 And.intro @aR.eq_5 <|
 And.intro @aR.eq_6 <|
 And.intro @aR.eq_7 <|
 And.intro @aR.eq_8 <|
 And.intro @aR.eq_9 <|
 And.intro @aR.eq_10 <|
 And.intro @aR.eq_11 <|
 And.intro @aR.eq_12 <|
 And.intro @aR.go.eq_1 <|
 And.intro @aR.go.eq_2 <|
 And.intro @bN.eq_1 <|
 And.intro @bN.eq_2 <|
 And.intro @bN.eq_3 <|
 And.intro @bN.eq_4 <|
 And.intro @bN.eq_5 <|
 And.intro @bN.eq_6 <|
 And.intro @bN.eq_7 <|
 And.intro @bN.eq_8 <|
 And.intro @iu.eq_1 <|
 And.intro @iu.eq_2 <|
 And.intro @iu.eq_3 <|
 And.intro @jv.eq_1 <|
 And.intro @mD.eq_1 <|
 And.intro @mD.eq_2 <|
 And.intro @mD.eq_3 <|
 And.intro @fW.eq_1 <|
 And.intro @vz.eq_1 <|
 And.intro @m5.eq_1 <|
 And.intro @js.eq_1 <|
 And.intro @js.eq_2 <|
 And.intro @js.eq_3 <|
 And.intro @js.eq_4 <|
 And.intro @js.eq_5 <|
 And.intro @dF.eq_1 <|
 And.intro @dF.eq_2 <|
 And.intro @ez.eq_1 <|
 And.intro @jU.eq_1 <|
 And.intro @jU.eq_2 <|
 And.intro @iz.eq_1 <|
 And.intro @iz.eq_2 <|
 And.intro @iz.eq_3 <|
 And.intro @pH.eq_1 <|
 And.intro @Nr.eq_1 <|
 And.intro @qZ.eq_1 <|
 And.intro @sx.eq_1 <|
 And.intro @sx.eq_2 <|
 And.intro @my.eq_1 <|
 And.intro @my.eq_2 <|
 And.intro @my.eq_3 <|
 And.intro @my.eq_4 <|
 And.intro @List.map_cons.{0,0} <|
 And.intro @List.map_nil.{0,0} <|
 And.intro @List.toList_toArray.{0} <|
 And.intro @List.getElem?_cons_zero.{0} <|
 And.intro @List.getElem?_cons_succ.{0} <|
 And.intro @List.take_zero.{0} <|
 And.intro @List.all_nil.{0} <|
 And.intro @List.length_cons.{0} <|
 And.intro @List.length_nil.{0} <|
 And.intro @List.drop_zero.{0} <|
 And.intro @List.drop_succ_cons.{0} <|
 And.intro @if_true.{1} <|
 And.intro @if_false.{1} <|
 And.intro @List.nil_append.{0} <|
 And.intro @List.cons_append.{0} <|
 And.intro @ne_eq.{1} <|
 And.intro @m9.eq_1 <|
 And.intro @eT.eq_1 <|
 And.intro @rq.eq_1 <|
 And.intro @rq.eq_2 <|
 And.intro @tM.eq_1 <|
 And.intro @tM.eq_2 <|
 And.intro @nD.eq_1 <|
 And.intro @IG.eq_1 <|
 And.intro @IG.eq_2 <|
 And.intro @IG.eq_3 <|
 And.intro @fw.eq_1 <|
 And.intro @iS.eq_1 <|
 And.intro @iS.eq_2 <|
 And.intro @iS.eq_3 <|
 And.intro @iS.eq_4 <|
 And.intro @cU.eq_1 <|
 And.intro @ao.eq_1 <|
 And.intro @ao.eq_2 <|
 And.intro @ao.eq_3 <|
 And.intro @ao.eq_4 <|
 And.intro @ao.eq_5 <|
 And.intro @ao.eq_6 <|
 And.intro @ao.eq_7 <|
 And.intro @ao.eq_8 <|
 And.intro @ao.eq_9 <|
 And.intro @ao.eq_10 <|
 And.intro @ao.eq_11 <|
 And.intro @ao.eq_12 <|
 And.intro @ao.go.eq_1 <|
 And.intro @ao.go.eq_2 <|
 And.intro @jh.eq_1 <|
 And.intro @vI.eq_1 <|
 And.intro @vI.eq_2 <|
 And.intro @DY.eq_1 <|
 And.intro @DY.eq_2 <|
 And.intro @nm.eq_1 <|
 And.intro @nm.eq_2 <|
 And.intro @eQ.eq_1 <|
 And.intro @eQ.eq_2 <|
 And.intro @eQ.eq_3 <|
 And.intro @List.replicate.eq_1.{0} <|
 And.intro @List.replicate.eq_2.{0} <|
 And.intro @List.mapM_cons.{0,0,0} <|
 And.intro @List.mapM_nil.{0,0,0} <|
 And.intro @Option.pure_def.{0} <|
 And.intro @Option.bind_eq_bind.{0} <|
 And.intro @Option.bind_some.{0,0} <|
 And.intro @eE.eq_1 <|
 And.intro @List.set_cons_zero.{0} <|
 And.intro @List.set_cons_succ.{0} <|
 And.intro @List.take_succ_cons.{0} <|
 And.intro @List.contains_nil.{0} <|
 And.intro @List.contains_cons.{0} <|
 And.intro @List.flatMap_cons.{0,0} <|
 And.intro @List.flatMap_nil.{0,0} <|
 And.intro @List.all_cons.{0} <|
 And.intro @List.append_nil.{0} <|
 And.intro @List.length_map.{0,0} <|
 And.intro @List.getElem?_map.{0,0} <|
 And.intro @Option.map_some.{0,0} <|
 And.intro @gJ.eq_1 <|
 And.intro @rv.eq_1 <|
 And.intro @lj.eq_1 <|
 And.intro @gS.eq_1 <|
 And.intro @gS.eq_2 <|
 And.intro @gS.eq_3 <|
 And.intro @gS.eq_4 <|
 And.intro @Go.VL.CI <|
 And.intro @Go.VL.Cp <|
 And.intro @Go.VL.Dh <|
 And.intro @Go.VL.Aj <|
 And.intro @Go.VL.GZ <|
 And.intro @Go.VL.zy <|
 And.intro @Go.VL.F1 <|
 And.intro @Go.VL.Gg <|
 And.intro @Go.VL.G1 <|
 And.intro @Go.VL.KR <|
 And.intro @Go.VL.JX <|
 And.intro @Go.VL.tO <|
 And.intro @Go.VL.eZ <|
 And.intro @Go.VL.fH <|
 And.intro @Go.VL.xR <|
 And.intro @Go.VL.Ao <|
 And.intro @Go.VL.Da <|
 And.intro @Go.VL.ej <|
 And.intro @Go.VL.nw <|
 And.intro @Go.VL.xr <|
 And.intro @Go.VL.dS <|
 And.intro @Go.VL.dp <|
 @jM.eq_1) :=
 And.intro @eq_self.{1} <|
 And.intro @hole.eq_1 <|
 And.intro @eO.eq_1 <|
 And.intro @jC.eq_1 <|
 And.intro @fP.eq_1 <|
 And.intro @fP.eq_2 <|
 And.intro @Bz.eq_1 <|
 And.intro @Bz.eq_2 <|
 And.intro @AS.eq_1 <|
 And.intro @MO.eq_1 <|
 And.intro @H9.eq_1 <|
 And.intro @n8.eq_1 <|
 And.intro @I5.eq_1 <|
 And.intro @fk.eq_1 <|
 And.intro @fk.eq_2 <|
 And.intro @fk.eq_3 <|
 And.intro @fk.eq_4 <|
 And.intro @fk.eq_5 <|
 And.intro @Go.Op.operands.eq_1 <|
 And.intro @Go.Op.operands.eq_2 <|
 And.intro @Go.Op.operands.eq_3 <|
 And.intro @Go.Op.operands.eq_4 <|
 And.intro @Go.Op.operands.eq_5 <|
 And.intro @Go.Op.operands.eq_6 <|
 And.intro @Go.Op.operands.eq_7 <|
 And.intro @Go.Op.operands.eq_8 <|
 And.intro @Go.Op.operands.eq_9 <|
 And.intro @Go.Op.operands.eq_10 <|
 And.intro @Go.Op.operands.eq_11 <|
 And.intro @Go.Op.operands.eq_12 <|
 And.intro @Go.Op.operands.eq_13 <|
 And.intro @Go.Op.operands.eq_14 <|
 And.intro @Go.Op.operands.eq_15 <|
 And.intro @Go.Op.operands.eq_16 <|
 And.intro @Go.Op.operands.eq_17 <|
 And.intro @Go.Op.operands.eq_18 <|
 And.intro @Go.Op.operands.eq_19 <|
 And.intro @Go.Op.operands.eq_20 <|
 And.intro @Go.Op.operands.eq_21 <|
 And.intro @Go.Op.operands.eq_22 <|
 And.intro @Go.Op.operands.eq_23 <|
 And.intro @Go.Op.operands.eq_24 <|
 And.intro @Go.Op.operands.eq_25 <|
 And.intro @Go.Op.operands.eq_26 <|
 And.intro @Go.Op.operands.eq_27 <|
 And.intro @Go.Op.operands.eq_28 <|
 And.intro @Go.Op.operands.eq_29 <|
 And.intro @Go.Op.operands.eq_30 <|
 And.intro @Go.Op.operands.eq_31 <|
 And.intro @Go.Op.operands.eq_32 <|
 And.intro @Go.Op.operands.eq_33 <|
 And.intro @Go.Op.operands.eq_34 <|
 And.intro @Go.Op.operands.eq_35 <|
 And.intro @Go.Op.operands.eq_36 <|
 And.intro @Go.Op.operands.eq_37 <|
 And.intro @Go.Op.operands.eq_38 <|
 And.intro @Go.Op.operands.eq_39 <|
 And.intro @Go.Op.operands.eq_40 <|
 And.intro @Go.Op.operands.eq_41 <|
 And.intro @Go.Op.operands.eq_42 <|
 And.intro @Go.Op.operands.eq_43 <|
 And.intro @Go.Call.operands.eq_1 <|
 And.intro @Array.toList_append.{0} <|
 And.intro @gf.eq_1 <|
 And.intro @gf.eq_2 <|
 And.intro @gf.eq_3 <|
 And.intro @gf.eq_4 <|
 And.intro @gf.eq_5 <|
 And.intro @vR.eq_1 <|
 And.intro @vR.eq_2 <|
 And.intro @vR.eq_3 <|
 And.intro @jE.eq_1 <|
 And.intro @eg.eq_1 <|
 And.intro @eg.eq_2 <|
 And.intro @gE.eq_1 <|
 And.intro @gE.eq_2 <|
 And.intro @D2 <|
 And.intro @ev.eq_1 <|
 And.intro @ev.eq_2 <|
 And.intro @ev.eq_3 <|
 And.intro @ev.eq_4 <|
 And.intro @N4.eq_1 <|
 And.intro @N4.eq_2 <|
 And.intro @cv.eq_1 <|
 And.intro @cv.eq_2 <|
 And.intro @cv.eq_3 <|
 And.intro @cv.eq_4 <|
 And.intro @mM.eq_1 <|
 And.intro @m6.eq_1 <|
 And.intro @m6.eq_2 <|
 And.intro @m6.eq_3 <|
 And.intro @oP.eq_1 <|
 And.intro @oP.eq_2 <|
 And.intro @dy.eq_1 <|
 And.intro @dy.eq_2 <|
 And.intro @dy.eq_3 <|
 And.intro @dy.eq_4 <|
 And.intro @dy.eq_5 <|
 And.intro @dy.eq_6 <|
 And.intro @dy.eq_7 <|
 And.intro @dy.eq_8 <|
 And.intro @dy.eq_9 <|
 And.intro @dy.eq_10 <|
 And.intro @dy.eq_11 <|
 And.intro @dy.eq_12 <|
 And.intro @eK.eq_1 <|
 And.intro @eK.eq_2 <|
 And.intro @eK.eq_3 <|
 And.intro @eK.eq_4 <|
 And.intro @eK.eq_5 <|
 And.intro @eK.eq_6 <|
 And.intro @eK.eq_7 <|
 And.intro @eK.eq_8 <|
 And.intro @eK.eq_9 <|
 And.intro @eK.eq_10 <|
 And.intro @eK.eq_11 <|
 And.intro @eK.eq_12 <|
 And.intro @eK.eq_13 <|
 And.intro @eK.eq_14 <|
 And.intro @eK.eq_15 <|
 And.intro @vX.eq_1 <|
 And.intro @vX.eq_2 <|
 And.intro @vX.eq_3 <|
 And.intro @ic.eq_1 <|
 And.intro @ic.eq_2 <|
 And.intro @ic.eq_3 <|
 And.intro @ic.eq_4 <|
 And.intro @ic.eq_5 <|
 And.intro @ic.eq_6 <|
 And.intro @xf.eq_1 <|
 And.intro @AJ.eq_1 <|
 And.intro @AJ.eq_2 <|
 And.intro @Fv.eq_1 <|
 And.intro @Fv.eq_2 <|
 And.intro @Gt.eq_1 <|
 And.intro @aR.eq_1 <|
 And.intro @aR.eq_2 <|
 And.intro @aR.eq_3 <|
 And.intro @aR.eq_4 <|
 And.intro @aR.eq_5 <|
 And.intro @aR.eq_6 <|
 And.intro @aR.eq_7 <|
 And.intro @aR.eq_8 <|
 And.intro @aR.eq_9 <|
 And.intro @aR.eq_10 <|
 And.intro @aR.eq_11 <|
 And.intro @aR.eq_12 <|
 And.intro @aR.go.eq_1 <|
 And.intro @aR.go.eq_2 <|
 And.intro @bN.eq_1 <|
 And.intro @bN.eq_2 <|
 And.intro @bN.eq_3 <|
 And.intro @bN.eq_4 <|
 And.intro @bN.eq_5 <|
 And.intro @bN.eq_6 <|
 And.intro @bN.eq_7 <|
 And.intro @bN.eq_8 <|
 And.intro @iu.eq_1 <|
 And.intro @iu.eq_2 <|
 And.intro @iu.eq_3 <|
 And.intro @jv.eq_1 <|
 And.intro @mD.eq_1 <|
 And.intro @mD.eq_2 <|
 And.intro @mD.eq_3 <|
 And.intro @fW.eq_1 <|
 And.intro @vz.eq_1 <|
 And.intro @m5.eq_1 <|
 And.intro @js.eq_1 <|
 And.intro @js.eq_2 <|
 And.intro @js.eq_3 <|
 And.intro @js.eq_4 <|
 And.intro @js.eq_5 <|
 And.intro @dF.eq_1 <|
 And.intro @dF.eq_2 <|
 And.intro @ez.eq_1 <|
 And.intro @jU.eq_1 <|
 And.intro @jU.eq_2 <|
 And.intro @iz.eq_1 <|
 And.intro @iz.eq_2 <|
 And.intro @iz.eq_3 <|
 And.intro @pH.eq_1 <|
 And.intro @Nr.eq_1 <|
 And.intro @qZ.eq_1 <|
 And.intro @sx.eq_1 <|
 And.intro @sx.eq_2 <|
 And.intro @my.eq_1 <|
 And.intro @my.eq_2 <|
 And.intro @my.eq_3 <|
 And.intro @my.eq_4 <|
 And.intro @List.map_cons.{0,0} <|
 And.intro @List.map_nil.{0,0} <|
 And.intro @List.toList_toArray.{0} <|
 And.intro @List.getElem?_cons_zero.{0} <|
 And.intro @List.getElem?_cons_succ.{0} <|
 And.intro @List.take_zero.{0} <|
 And.intro @List.all_nil.{0} <|
 And.intro @List.length_cons.{0} <|
 And.intro @List.length_nil.{0} <|
 And.intro @List.drop_zero.{0} <|
 And.intro @List.drop_succ_cons.{0} <|
 And.intro @if_true.{1} <|
 And.intro @if_false.{1} <|
 And.intro @List.nil_append.{0} <|
 And.intro @List.cons_append.{0} <|
 And.intro @ne_eq.{1} <|
 And.intro @m9.eq_1 <|
 And.intro @eT.eq_1 <|
 And.intro @rq.eq_1 <|
 And.intro @rq.eq_2 <|
 And.intro @tM.eq_1 <|
 And.intro @tM.eq_2 <|
 And.intro @nD.eq_1 <|
 And.intro @IG.eq_1 <|
 And.intro @IG.eq_2 <|
 And.intro @IG.eq_3 <|
 And.intro @fw.eq_1 <|
 And.intro @iS.eq_1 <|
 And.intro @iS.eq_2 <|
 And.intro @iS.eq_3 <|
 And.intro @iS.eq_4 <|
 And.intro @cU.eq_1 <|
 And.intro @ao.eq_1 <|
 And.intro @ao.eq_2 <|
 And.intro @ao.eq_3 <|
 And.intro @ao.eq_4 <|
 And.intro @ao.eq_5 <|
 And.intro @ao.eq_6 <|
 And.intro @ao.eq_7 <|
 And.intro @ao.eq_8 <|
 And.intro @ao.eq_9 <|
 And.intro @ao.eq_10 <|
 And.intro @ao.eq_11 <|
 And.intro @ao.eq_12 <|
 And.intro @ao.go.eq_1 <|
 And.intro @ao.go.eq_2 <|
 And.intro @jh.eq_1 <|
 And.intro @vI.eq_1 <|
 And.intro @vI.eq_2 <|
 And.intro @DY.eq_1 <|
 And.intro @DY.eq_2 <|
 And.intro @nm.eq_1 <|
 And.intro @nm.eq_2 <|
 And.intro @eQ.eq_1 <|
 And.intro @eQ.eq_2 <|
 And.intro @eQ.eq_3 <|
 And.intro @List.replicate.eq_1.{0} <|
 And.intro @List.replicate.eq_2.{0} <|
 And.intro @List.mapM_cons.{0,0,0} <|
 And.intro @List.mapM_nil.{0,0,0} <|
 And.intro @Option.pure_def.{0} <|
 And.intro @Option.bind_eq_bind.{0} <|
 And.intro @Option.bind_some.{0,0} <|
 And.intro @eE.eq_1 <|
 And.intro @List.set_cons_zero.{0} <|
 And.intro @List.set_cons_succ.{0} <|
 And.intro @List.take_succ_cons.{0} <|
 And.intro @List.contains_nil.{0} <|
 And.intro @List.contains_cons.{0} <|
 And.intro @List.flatMap_cons.{0,0} <|
 And.intro @List.flatMap_nil.{0,0} <|
 And.intro @List.all_cons.{0} <|
 And.intro @List.append_nil.{0} <|
 And.intro @List.length_map.{0,0} <|
 And.intro @List.getElem?_map.{0,0} <|
 And.intro @Option.map_some.{0,0} <|
 And.intro @gJ.eq_1 <|
 And.intro @rv.eq_1 <|
 And.intro @lj.eq_1 <|
 And.intro @gS.eq_1 <|
 And.intro @gS.eq_2 <|
 And.intro @gS.eq_3 <|
 And.intro @gS.eq_4 <|
 And.intro @Go.VL.CI <|
 And.intro @Go.VL.Cp <|
 And.intro @Go.VL.Dh <|
 And.intro @Go.VL.Aj <|
 And.intro @Go.VL.GZ <|
 And.intro @Go.VL.zy <|
 And.intro @Go.VL.F1 <|
 And.intro @Go.VL.Gg <|
 And.intro @Go.VL.G1 <|
 And.intro @Go.VL.KR <|
 And.intro @Go.VL.JX <|
 And.intro @Go.VL.tO <|
 And.intro @Go.VL.eZ <|
 And.intro @Go.VL.fH <|
 And.intro @Go.VL.xR <|
 And.intro @Go.VL.Ao <|
 And.intro @Go.VL.Da <|
 And.intro @Go.VL.ej <|
 And.intro @Go.VL.nw <|
 And.intro @Go.VL.xr <|
 And.intro @Go.VL.dS <|
 And.intro @Go.VL.dp <|
 @jM.eq_1
theorem jt {P:Program}{f:FuncId} (ρ:List Nat) {cargs args:List V}{s exts I4:List Obj}{r r':V}{K:V→List Obj→Prop} (h:av P f cargs exts fun v s'=>v=r∧s'=I4) (hnd:ρ.Nodup) (hl:I4.length=exts.length)
  (hs:ρ.map (fun i=>s[i]?)=exts.map (fun o=>some (bX ρ o))) (ha:args=cargs.map (bF ρ)) (td:ao.go exts.length cargs=true) (Nj:exts.all (cU exts.length)=true) (hr:bF ρ r=r') (hk:K r' (aZ s ρ (I4.map (bX ρ)))):av P f args s K:=by
 have hρ:ρ.length=exts.length:=by simpa using congrArg List.length hs
 refine rO h ρ hρ hnd (fun k o ho=>?_) ha td Nj fun v s' hv=>?_
 ·have h1:=congrArg (fun l=>l[k]?) hs
  simp only[Xd,ho,XE]at h1
  have hk:k<ρ.length:=by rw[hρ];exact(List.getElem?_eq_some_iff.1 ho).1
  rw[WZ hk]at h1
  simp only[XE,WX]at h1
  simpa [List.getD,WZ hk]using h1
 ·obtain⟨rfl,rfl⟩:=hv
  exact⟨hl,by rw[hr];exact hk⟩
theorem Cm {P:Program}{f:FuncId}{args:List V}{s s1:List Obj}{r:V}{rd wr:List Nat}{K:V→List Obj→Prop} (h:av P f args s fun v s'=>v=r∧s'=s1) (Sz:∀i,i<s.length→i∈rd) (V0:s1.length=wr.length)
  (hwr:aZ s wr s1=s1) (hk:K r s1):mq P rd wr f args s K:=by
 refine⟨r,s1,V0,fun s' hl hs=>?_,by rw[hwr];exact hk⟩
 have e:s'=s:=by
  apply List.ext_getElem?
  intro i
  rcases Xw i s.length with hi|hi
  ·exact hs i (Sz i hi)
  ·rw[XQ (by omega),XQ hi]
 subst e
 rw[hwr]
 exact h
theorem dj.M1 {O:Nat→Prop}{w:World}{cs ex:List D}{u:Value} (h:dj O w (.el (cs++ex)) u):dj O w (.el cs) u:=by
 generalize hd:D.el (cs++ex)=x at h
 cases h with
 |el PS a f h1 h2 h3 =>
  cases hd
  exact .el cs a f h1 (fun j x hx=>h2 j x (by rw[Xg (List.getElem?_eq_some_iff.1 hx).1];exact hx)) (fun j x hx=>h3 j x (by rw[Xg (List.getElem?_eq_some_iff.1 hx).1];exact hx))
 |_=>cases hd
theorem HH {P:Program}{f:FuncId}{cs ex:List D}{args:List V}{s:List Obj}{K:V→List Obj→Prop} (h:av P f (.d (.el cs)::args) s K):av P f (.d (.el (cs++ex))::args) s K:=by
 refine⟨h.1,fun σ w vals hI hl hv=>h.2 σ w vals hI (by simpa using hl) fun i x hx=>?_⟩
 cases i with
 |zero =>
  simp at hx;subst hx
  have:=hv 0 _ rfl
  generalize vals.getD 0 undef=u at this ⊢
  cases this with|d hd=>exact .d hd.M1
 |succ i=>exact hv (i+1) x (by simpa using hx)
theorem JY {σ:Gh}{s:List Obj}{w:World} (hI:Inv σ s w) {k:Nat}{o:Obj}{els':List (List V)} (ho:s[k]?=some o) (hlen:∀e∈els',e.length=o.sz) (TH:els'.length=o.aV.length) (Ox:∀es,o.aV≠jQ es)
  (h:∀(i j:Nat) (x':V),(els'[i]?.bind (·[j]?))=some x'→∃x,(o.aV[i]?.bind (·[j]?))=some x∧∀u,aI σ s w x u→aI σ s w x' u) :
  aY σ s w σ (s.set k { o with aV:=els' }) w∧Inv σ (s.set k { o with aV:=els' }) w:=by
 have hk:=(List.getElem?_eq_some_iff.1 ho).1
 have get:∀(id:Nat) (o':Obj),(s.set k { o with aV:=els' })[id]?=some o'→∃o1,s[id]?=some o1∧o1.live=o'.live∧o1.g=o'.g∧o1.sz=o'.sz:=by
  intro id o' h'
  rw[List.getElem?_set]at h'
  split at h'
  ·rename_i he
   subst he
   try rw[if_pos hk]at h'
   simp only[WX]at h'
   subst h'
   exact⟨o,ho,rfl,rfl,rfl⟩
  ·exact⟨o',h',rfl,rfl,rfl⟩
 have put:∀(id:Nat) (o1:Obj),s[id]?=some o1→∃o',(s.set k { o with aV:=els' })[id]?=some o'∧o'.g=o1.g∧o'.sz=o1.sz∧o'.live=o1.live:=by
  intro id o1 h'
  rw[List.getElem?_set]
  split
  ·rename_i he
   subst he
   rw[ho]at h'
   simp only[WX]at h'
   subst h'
   first|exact⟨_,rfl,rfl,rfl,rfl⟩|exact⟨_,by rw[if_pos hk],rfl,rfl,rfl⟩
  ·exact⟨o1,h',rfl,rfl,rfl⟩
 have hE:aY σ s w σ (s.set k { o with aV:=els' }) w:=by
  refine⟨rfl,rfl,rfl,W4 _,fun _ _ _=>rfl,fun _ arr _ _ h=>⟨arr,h,rfl⟩,fun _ _ h=>h,?_,?_,rfl,fun _ _ _=>rfl⟩
  ·rintro b (hb|⟨id,o',base,h1,h2,h3⟩)
   ·exact .inl (.inl hb)
   ·obtain⟨o1,k1,k2,_⟩:=get id o' h1
    exact .inl (.inr ⟨id,o1,base,k1,by rw[k2];exact h2,h3⟩)
  ·intro id o1 h1
   obtain⟨o',k1,k2,k3,_⟩:=put id o1 h1
   exact⟨o',k1,by omega,fun _=>⟨k3,rfl⟩⟩
 refine⟨hE,⟨?_,?_,hI.low,?_⟩⟩
 ·intro id o' h1
  by_cases he:id=k
  ·subst he
   rw[XK hk]at h1
   simp only[WX]at h1
   subst h1
   rcases hI.content id o ho with (⟨c1,c2⟩|⟨b,es,c,c1,c2,c3⟩)|⟨b,base,arr,E,c1,c2,c3,c4,c5⟩
   ·left;exact .inl ⟨c1,Xb (by show els'.length=0;rw[TH,c2];rfl)⟩
   ·exact(Ox es c3).elim
   ·right
    refine⟨b,base,arr,E,c1,c2,hlen,by show base+els'.length*o.sz≤arr.size;rw[TH];exact c4,fun i j x' hx=>?_⟩
    obtain⟨x,y1,y2⟩:=h i j x' hx
    obtain⟨u,z1,z2,z3⟩:=c5 i j x y1
    exact⟨u,z1,z2,(y2 u z3).bS hE⟩
  ·rw[XZ (Ne.symm he)]at h1
   rcases hI.content id o' h1 with c|⟨b,base,arr,E,c1,c2,c3,c4,c5⟩
   ·exact .inl c
   ·right
    refine⟨b,base,arr,E,c1,c2,c3,c4,fun i j x hx=>?_⟩
    obtain⟨u,z1,z2,z3⟩:=c5 i j x hx
    exact⟨u,z1,z2,z3.bS hE⟩
 ·intro id jz o1 o2 b base cg h1 h2 h3 h4 h5
  obtain⟨p1,q1,q2,_⟩:=get id o1 h1
  obtain⟨p2,r1,_⟩:=get jz o2 h2
  exact hI.inj id jz p1 p2 b base cg q1 r1 (by rw[q2];exact h3) h4 h5
 ·intro id o1 b base h1 h2
  obtain⟨p1,q1,_⟩:=get id o1 h1
  exact hI.apart id p1 b base q1 h2
theorem kP {P:Program}{f:FuncId}{args:List V}{s:List Obj}{o:Obj}{pre post:List V} (k sz:Nat) {K:V→List Obj→Prop} (ho:s[k]?=some o) (rk:o.aV=[pre++.fu []::post]) (iB:pre.length+1+post.length=o.sz)
  (h:av P f args (s.set k { o with aV:=[pre++.so s.length 0 0 0::post] }++[⟨0,true,sz,[]⟩]) K):av P f args s K:=by
 refine⟨h.1,fun σ w vals hI hl hv=>?_⟩
 have hk:=(List.getElem?_eq_some_iff.1 ho).1
 have hp:=lz (p:=none) (o':=⟨0,true,sz,[]⟩) (w':=w) hI rfl rfl rfl (W4 _) (fun _ _=>rfl) (fun _ _ h'=>by cases h') (fun _=>.inl (.inl ⟨rfl,rfl⟩))
 have Qp:(s++[(⟨0,true,sz,[]⟩:Obj)])[k]?=some o:=by rw[Xg hk];exact ho
 have hr:=JY hp.2 (els':=[pre++.so s.length 0 0 0::post]) Qp (by intro e he;rw[List.mem_singleton.1 he];simp;omega) (by rw[rk];rfl) (by
  intro es he
  rw[rk]at he
  have hm:(pre++.fu []::post)∈jQ es:=by rw[← he];exact List.mem_singleton.2 rfl
  unfold jQ at hm
  obtain⟨x,_,hx⟩:=List.mem_map.1 hm
  have hf:V.fu []∈[V.d (.sc x.key),V.d (.sc x.val)]:=by rw[hx];simp
  simp at hf) (fun i j x' hx=>by
  rw[rk]
  cases i with
  |succ i=>simp at hx
  |zero =>
   simp only[W9,XH]at hx ⊢
   by_cases hj:j=pre.length
   ·subst hj
    rw[Xm (W4 _),X3]at hx ⊢
    simp only[W9,WX]at hx ⊢
    subst hx
    refine⟨_,rfl,fun u hu=>?_⟩
    cases hu with|fu hx=>?_
    exact .so ⟨0,true,sz,[]⟩ (by simp) (W4 _) rfl (fun _=>.inl ⟨cw _ _ _,⟨_,rfl⟩,rfl,rfl⟩)
   ·refine⟨x',?_,fun u hu=>hu⟩
    rcases Xw j pre.length with aS|lW
    ·rw[Xg aS]at hx ⊢;exact hx
    ·rw[Xm lW]at hx ⊢
     cases hm:j-pre.length with
     |zero=>omega
     |succ m=>rw[hm]at hx;simpa using hx)
 have cC:(s++[(⟨0,true,sz,[]⟩:Obj)]).set k { o with aV:=[pre++.so s.length 0 0 0::post] }=s.set k { o with aV:=[pre++.so s.length 0 0 0::post] }++[⟨0,true,sz,[]⟩]:=by
  rw[List.set_append_left _ _ hk]
 rw[cC]at hr
 have hE:=hp.1.trans hr.1
 exact(h.2 _ w vals hr.2 hl (fun i x hx=>(hv i x hx).bS hE)).mono fun _ _ ⟨u,v,σ',s',a,b,c,d,e⟩=>⟨u,v,σ',s',a,hE.trans b,c,d,e⟩
theorem aI.TB {σ σ':Gh}{s s':List Obj}{w w':World}{c u:Value} (h:aI σ s w (.d (.sc c)) u):aI σ' s' w' (.d (.sc c)) u:=by
 cases h with|d h=>?_
 cases h with|sc _ hc=>exact .d (.sc _ hc)
theorem fK {P:Program}{f:FuncId}{args cargs:List V}{c:Value}{s:List Obj}{K:V→List Obj→Prop} (ids:List Nat) (h:br P f cargs (.d (.sc c)))
  (hc:aR.go (aM s ids).length (aM s ids) args=some cargs) (td:ao.go 0 cargs=true) (hk:K (.d (.sc c)) s):av P f args s K:=by
 refine⟨h.1,fun σ w vals hI hl hv=>?_⟩
 obtain⟨rP,RI⟩:=sJ ids s hI
 obtain⟨k1,k2⟩:=oz hc
 have e1:∀b,Own ⟨fun _=>none,Own σ (aM s ids)⟩ [] b→Own σ (aM s ids) b:=by
  rintro b (h|⟨id,o,base,h1,_⟩)
  ·exact h
  ·simp at h1
 refine(h.2 ⟨fun _=>none,Own σ (aM s ids)⟩ w vals ⟨fun id o ho=>by simp at ho,fun id _ o _ _ _ _ ho=>by simp at ho,fun b hb=>ud RI hb,fun id o _ _ ho=>by simp at ho⟩ (by omega)
  (fun i x hx=>by
   obtain⟨y,hy,hf⟩:=k2 i x hx
   have:=lb RI ((hv i y hy).bS rP) hf
   rw[XA]at this
   exact this.move (dx td i x hx) e1)).mono fun e w' ⟨u,v,σ',s',he,hE,jN,hR,Jo,ra⟩=>?_
 subst Jo;subst ra
 have same:=sU (w':=w') hI hE.os hE.tape hE.output hE.size fun b hb=>by
  by_cases ho:Own σ (aM s ids) b
  ·exact hE.ga b hb ho
  ·exact hE.cb b hb fun h'=>ho (e1 b h')
 exact⟨u,_,σ,s,he,same.1,same.2,hR.TB,hk⟩
theorem dw.U4 {L:Nat}{e e':Env}{s s':List Obj} (h:bM e s e' s'):dw L e s e' s':=fun σ0 s0 w0 σ w N a _ hE hI hR=>h σ0 s0 w0 σ w N a hE hI hR
theorem dw.freeze {L:Nat}{e:Env}{s:List Obj} (ids zw:List Nat):dw L e s (fq (aM s ids) zw e) (aM s ids):=.U4 (.freeze ids zw)
def jF (cb:List Nat):V→V
 |.so id g lo n=>match cb.idxOf? id with|some k=>.so k g lo n|none=>.any
 |.rf id g i off=>match cb.idxOf? id with|some k=>.rf k g i off|none=>.any
 |.pp id g i off b a=>match cb.idxOf? id with|some k=>.pp k g i off b a|none=>.any
 |.mp id g=>match cb.idxOf? id with|some k=>.mp k g|none=>.any
 |.ag cs=>.ag (go cs)
 |.tu cs=>.tu (go cs)
 |.bx v=>.bx (jF cb v)
 |.cl fn first ak=>.cl fn (go first) (go ak)
 |.d x=>.d x
 |.fu aV=>.fu aV
 |.un=>.un
 |.any=>.any
where go:List V→List V
 |[]=>[]
 |v::vs=>jF cb v::go vs
theorem nU (cb:List Nat):∀(l:List V),jF.go cb l=l.map (jF cb)
 |[]=>rfl
 |v::vs=>by simp [jF.go,nU cb vs]
def mG (cb:List Nat) (o:Obj):Obj:={ o with aV:=o.aV.map (jF.go cb) }
def zb (cb:List Nat) (s:List Obj):List Obj:=cb.map fun id=>mG cb (s.getD id hole)
def Jz (cb:List Nat) (σ:Gh):Gh:=⟨fun k=>match cb[k]? with|some id=>σ id|none=>none,σ.base⟩
section Nb
variable {σ:Gh}{s:List Obj}{w:World}{cb:List Nat}
theorem CY {k:Nat}{o:Obj} (h:(zb cb s)[k]?=some o):∃id,cb[k]?=some id∧o=mG cb (s.getD id hole):=by
 unfold zb at h
 rw[Xd]at h
 obtain⟨id,h1,h2⟩:=Option.map_eq_some_iff.1 h
 exact⟨id,h1,h2.symm⟩
theorem sY {k id:Nat}{o:Obj} (h:cb[k]?=some id) (ho:s[id]?=some o):(zb cb s)[k]?=some (mG cb o):=by
 unfold zb
 rw[Xd,h]
 simp [List.getD,ho]
theorem jW {k id:Nat} (h:cb[k]?=some id):Jz cb σ k=σ id:=by
 show (match cb[k]? with|some id=>σ id|none=>none)=σ id
 rw[h]
theorem wu (aS:∀id∈cb,id<s.length) {b:Nat} (h:Own (Jz cb σ) (zb cb s) b):Own σ s b:=by
 rcases h with h|⟨k,o,base,h1,h2,h3⟩
 ·exact .inl h
 ·obtain⟨id,k1,rfl⟩:=CY h1
  have hi:=aS id (W6 k1)
  rw[jW k1]at h3
  have hg:s.getD id hole=s[id]:=by simp [List.getD,WZ hi]
  rw[hg]at h2
  exact .inr ⟨id,s[id],base,by simp [hi],h2,h3⟩
theorem qJ {id k:Nat} (h:cb.idxOf? id=some k):cb[k]?=some id:=by
 rw[List.idxOf?_eq_some_iff]at h
 obtain⟨h1,h2,_⟩:=h
 rw[WZ h1]
 simpa using h2
theorem aI.Nb (aS:∀id∈cb,id<s.length) {x:V}{u:Value} (hr:aI σ s w x u):aI (Jz cb σ) (zb cb s) w (jF cb x) u:=by
 have g:∀(cs:List V) (i:Nat) (y:V),(cs.map (jF cb))[i]?=some y→∃x,cs[i]?=some x∧jF cb x=y:=fun cs i y hy=>by
  rw[Xd]at hy
  exact Option.map_eq_some_iff.1 hy
 induction hr with
 |d hx=>exact .d (hx.own fun b hb=>wu aS hb)
 |fu hx=>exact .fu (hx.own fun b hb=>wu aS hb)
 |un=>exact .un
 |any=>exact .any
 |ag h1 h2 _ ih =>
  simp only[jF,nU]
  refine .ag (by simpa using h1) (fun i y hy=>?_) (fun i y hy=>?_)
  ·obtain⟨x,hx,rfl⟩:=g _ i y hy;exact h2 i x hx
  ·obtain⟨x,hx,rfl⟩:=g _ i y hy;exact ih i x hx
 |tu h1 _ ih =>
  simp only[jF,nU]
  refine .tu (by simpa using h1) (fun i y hy=>?_)
  obtain⟨x,hx,rfl⟩:=g _ i y hy;exact ih i x hx
 |bx h1 h2 h3 hu _ ih=>simp only[jF];exact .bx h1 h2 (fun h'=>h3 (wu aS h')) hu ih
 |cl h1 _ h3 _ wK fR =>
  simp only[jF,nU]
  refine .cl (by simpa using h1) (fun i y hy=>?_) (by simpa using h3) (fun i y hy=>?_)
  ·obtain⟨x,hx,rfl⟩:=g _ i y hy;exact wK i x hx
  ·obtain⟨x,hx,rfl⟩:=g _ i y hy;exact fR i x hx
 |so o ho hg hu hk =>
  simp only[jF]
  split
  ·rename_i k dN
   have dN:=qJ dN
   refine .so (mG cb o) (sY dN ho) hg hu fun sj=>?_
   have:=hk sj
   unfold y6 at this ⊢
   rw[jW dN]
   exact this
  ·exact .any
 |rf o ho hg hu hk =>
  simp only[jF]
  split
  ·rename_i k dN
   have dN:=qJ dN
   refine .rf (mG cb o) (sY dN ho) hg hu fun sj=>?_
   rw[jW dN]
   exact hk sj
  ·exact .any
 |pp o ho hg hk =>
  simp only[jF]
  split
  ·rename_i k dN
   have dN:=qJ dN
   refine .pp (mG cb o) (sY dN ho) hg fun sj=>?_
   rw[jW dN]
   exact hk sj
  ·exact .any
 |mp o ho hg hu hk =>
  simp only[jF]
  split
  ·rename_i k dN
   have dN:=qJ dN
   refine .mp (mG cb o) (sY dN ho) hg hu fun sj=>?_
   rw[jW dN]
   exact hk sj
  ·exact .any
theorem Inv.Nb (hI:Inv σ s w) (aS:∀id∈cb,id<s.length) (hnd:cb.Nodup):Inv (Jz cb σ) (zb cb s) w:=by
 have get:∀(k:Nat) (o:Obj),(zb cb s)[k]?=some o→∃id o',cb[k]?=some id∧s[id]?=some o'∧o=mG cb o':=by
  intro k o h
  obtain⟨id,k1,rfl⟩:=CY h
  have hi:=aS id (W6 k1)
  exact⟨id,s[id],k1,by simp [hi],by simp [List.getD,WZ hi]⟩
 refine⟨fun k o ho=>?_,fun k k' o o' b base cg h1 h2 h3 h4 h5=>?_,hI.low,fun k o b base h1 h2=>?_⟩
 ·obtain⟨id,o',k1,k2,rfl⟩:=get k o ho
  rw[jW k1]
  rcases hI.content id o' k2 with (⟨h1,h2⟩|⟨b,es,c,h1,h2,h3⟩)|⟨b,base,arr,E,h1,h2,h3,h4,h5⟩
  ·exact .inl (.inl ⟨h1,by simp [mG,h2]⟩)
  ·refine .inl (.inr ⟨b,es,c,h1,h2,?_⟩)
   simp only[mG,h3,jQ,XS]
   apply XM
   intro e _
   rfl
  ·refine .inr ⟨b,base,arr,E,h1,h2,fun c hc=>?_,by simpa [mG]using h4,fun i j x hx=>?_⟩
   ·obtain⟨c',Tj,rfl⟩:=List.mem_map.1 hc
    rw[nU]
    simpa [mG]using h3 c' Tj
   ·simp only[mG,Xd]at hx
    cases hi:o'.aV[i]? with
    |none=>simp [hi]at hx
    |some c =>
     simp only[hi,XE,XH,nU,Xd]at hx
     obtain⟨y,hy,rfl⟩:=Option.map_eq_some_iff.1 hx
     obtain⟨u,g1,g2,g3⟩:=h5 i j y (by simp [hi,hy])
     exact⟨u,g1,g2,g3.Nb aS⟩
 ·obtain⟨id,p,k1,k2,rfl⟩:=get k o h1
  obtain⟨jz,p',l1,l2,rfl⟩:=get k' o' h2
  rw[jW k1]at h4
  rw[jW l1]at h5
  have e:=hI.inj id jz p p' b base cg k2 l2 h3 h4 h5
  subst e
  obtain⟨a1,a2⟩:=List.getElem?_eq_some_iff.1 k1
  obtain⟨b1,b2⟩:=List.getElem?_eq_some_iff.1 l1
  exact(List.getElem_inj hnd).1 (a2.trans b2.symm)
 ·obtain⟨id,p,k1,k2,rfl⟩:=get k o h1
  rw[jW k1]at h2
  exact hI.apart id p b base k2 h2
theorem aY.Nb {σ0:Gh}{s0:List Obj}{w0:World} (hE:aY σ0 s0 w0 σ s w) (aS:∀id∈cb,id<s.length) (R8:∀id,id<s0.length→cb[id]?=some id):aY σ0 s0 w0 (Jz cb σ) (zb cb s) w:=by
 refine⟨hE.os,hE.tape,hE.output,hE.size,hE.cb,hE.shape,hE.pD,fun b hb=>hE.own b (wu aS hb),fun id o ho=>?_,hE.base,hE.ga⟩
 obtain⟨o',h1,h2,h3⟩:=hE.au id o ho
 have hk:=R8 id (List.getElem?_eq_some_iff.1 ho).1
 exact⟨mG cb o',sY hk h1,h2,fun he=>⟨(h3 he).1,by rw[jW hk];exact(h3 he).2⟩⟩
end Nb
def Ek (L:Nat) (cb:List Nat) (n:Nat):Bool:=cb.Nodup&&cb.all (fun id=>decide (id<n))&&((List.range L).all fun id=>cb[id]? == some id)
theorem DQ {L n:Nat}{cb:List Nat} (h:Ek L cb n=true):cb.Nodup∧(∀id∈cb,id<n)∧∀id,id<L→cb[id]?=some id:=by
 unfold Ek at h
 simp only[W7,decide_eq_true_eq,Xn,beq_iff_eq,List.mem_range]at h
 exact⟨h.1.1,h.1.2,h.2⟩
def GN (L:Nat) (s:List Obj) (r:V) (K:V→List Obj→Prop):Prop:=∃cb,Ek L cb s.length=true∧K (jF cb r) (zb cb s)
def Mh (P:Program) (rs:List ResultVar) (L:Nat) (K:V→List Obj→Prop) (ex:Exit) (e:Env) (s:List Obj):Prop:=vR ex∧xf P rs e s fun r=>GN L s r K
theorem Em {P : Program} {f : FuncId} {fn : Func} {c : Code} {args : List V} {exts : List Obj} {K : V → List Obj → Prop} (hf : P.funcs[f]? = some fn) (hb : fn.body = some c) {N : Nat} (hN : fn.ntmps = N) {rs : Array ResultVar} (Qv : fn.results = rs) (hn : (fn.name != "runtime.NumGoroutine") = true)
  (cE M:Nat) (hl:exts.length≤cE) (ha:args.length≤N)
  (h:codeWp P N cE M c (Mh P rs.toList cE K) (iu args) exts):av P f args exts K:=by
 subst hN;subst Qv
 refine⟨by simp only[HP,hf,hn,hb,Option.isSome_some,Bool.and_self],fun σ w vals hI Px hv=>?_⟩
 refine calls_of_wp hf hb ?_
 have hR:fE σ exts w fn.ntmps (iu args) { tmps:=vals++Array.replicate (fn.ntmps-vals.size) undef,defers:=[] }:=by
  refine⟨rfl,by simp;omega,fun t=>?_⟩
  rw[qh]
  by_cases ht:t<args.length
  ·have h1:=hv t args[t] (by simp [ht])
   have:(vals++Array.replicate (fn.ntmps-vals.size) undef).getD t undef=vals.getD t undef:=by
    rw[Xc,Array.getElem?_append_left (by omega),Xc]
   rw[this]
   simpa [ht]using h1
  ·have:(vals++Array.replicate (fn.ntmps-vals.size) undef).getD t undef=undef:=by
    rw[Xc,Array.getElem?_append_right (by omega),Array.getElem?_replicate]
    split <;> rfl
   rw[this]
   simp [ht]
   exact .un
 refine wp_mono (dB hl c _ (iu args) exts σ w _ (aY.refl _ _ _) hI hR h) fun ex a' w' ⟨e',σ',s',hE,jN,rl,hex,hq⟩=>?_
 obtain⟨v,u,k1,k2,k3⟩:=ph jN rl hq
 obtain⟨cb,h0,hK⟩:=k3
 obtain⟨h1,h2,h3⟩:=DQ h0
 have fin:a'.defers=[]∧∃v,(results fn a'.tmps).run P w'=.ok v w'∧∃u NG yj tK,Ending.returned v=.returned u∧aY σ exts w yj tK w'∧Inv yj tK w'∧aI yj tK w' NG u∧K NG tK:=by
  refine⟨rl.1,u,k1,?_⟩
  exact⟨u,_,_,_,rfl,hE.Nb h2 (fun id dJ=>h3 id (by omega)),jN.Nb h2 h1,k2.Nb h2,hK⟩
 rcases uM hex with rfl|rfl
 ·exact fin
 ·exact fin
def xB (ρ:List Nat) (s exts s':List Obj):List Nat:=ρ++List.range' s.length (s'.length-exts.length)
theorem px:∀(ρ ρ':List Nat) (A B:List Obj) (s:List Obj),A.length=ρ.length→aZ s (ρ++ρ') (A++B)=aZ (aZ s ρ A) ρ' B
 |[],ρ',[],B,s,_=>by simp [aZ]
 |[],_,_::_,_,_,h=>by simp at h
 |_::_,_,[],_,_,h=>by simp at h
 |r::ρ,ρ',a::A,B,s,h=>by
  simp only[WR,aZ]
  exact px ρ ρ' A B _ (by simpa using h)
theorem tP:∀(ρ:List Nat) (A:List Obj) (s t:List Obj),(∀id∈ρ,id<s.length)→aZ (s++t) ρ A=aZ s ρ A++t
 |[],_,s,t,_=>by simp [aZ]
 |r::ρ,[],s,t,_=>by simp [aZ]
 |r::ρ,a::A,s,t,h=>by
  simp only[aZ]
  rw[List.set_append_left _ _ (h r (by simp))]
  exact tP ρ A _ t (fun id dJ=>by simpa using h id (by simp [dJ]))
theorem vu:∀(m:Nat) (B s:List Obj),B.length=m→aZ (s++List.replicate m hole) (List.range' s.length m) B=s++B
 |0,B,s,h=>by
  have:B=[]:=Xb h
  subst this
  simp [aZ]
 |m+1,[],s,h=>by simp at h
 |m+1,b::B,s,h=>by
  rw[List.range'_succ,List.replicate_succ]
  simp only[aZ]
  rw[List.set_append_right _ _ (W4 _),X3,Xh]
  have:=vu m B (s++[b]) (by simpa using h)
  simpa using this
theorem po {P:Program}{f:FuncId}{cargs args:List V}{exts s:List Obj}{Kc K:V→List Obj→Prop} (h:av P f cargs exts Kc) (ρ:List Nat) (hρ:ρ.length=exts.length) (hnd:ρ.Nodup)
  (hs:∀(k:Nat) (o:Obj),exts[k]?=some o→s[ρ.getD k 0]?=some (bX ρ o)) (iP:args=cargs.map (bF ρ)) (td:ao.go exts.length cargs=true) (Nj:exts.all (cU exts.length)=true)
  (hk:∀v s',Kc v s'→exts.length≤s'.length→K (bF (xB ρ s exts s') v) (aZ s ρ ((s'.take exts.length).map (bX (xB ρ s exts s')))++(s'.drop exts.length).map (bX (xB ρ s exts s')))):av P f args s K:=by
 refine⟨h.1,fun σ w vals hI hl hv=>?_⟩
 have NO:∀k,k<exts.length→ρ[k]?=some (ρ.getD k 0):=fun k hk=>by simp [List.getD,show k<ρ.length by omega]
 have To:∀k k',k<exts.length→k'<exts.length→ρ.getD k 0=ρ.getD k' 0→k=k':=by
  intro k k' h1 h2 he
  have e1:=NO k h1
  have e2:=NO k' h2
  rw[he]at e1
  obtain⟨l1,g1⟩:=List.getElem?_eq_some_iff.1 e1
  obtain⟨l2,g2⟩:=List.getElem?_eq_some_iff.1 e2
  exact(List.getElem_inj hnd).1 (g1.trans g2.symm)
 have Ea:∀k,(hk:k<exts.length)→s[ρ.getD k 0]?=some (bX ρ exts[k]):=fun k hk=>hs k exts[k] (by simp [hk])
 let pj:Nat→Prop:=fun b=>∃k base,k<exts.length∧σ (ρ.getD k 0)=some (b,base)
 let σc:Gh:=⟨fun k=>if k<exts.length then σ (ρ.getD k 0) else none,fun b=>Own σ s b∧¬pj b⟩
 have BG:∀k,k<exts.length→σc k=σ (ρ.getD k 0):=fun k hk=>if_pos hk
 have ue:∀b,Own σc exts b→Own σ s b:=by
  rintro b (hb|⟨k,o,base,h1,h2,h3⟩)
  ·exact hb.1
  ·have aS:=(List.getElem?_eq_some_iff.1 h1).1
   rw[BG k aS]at h3
   exact .inr ⟨ρ.getD k 0,bX ρ o,base,hs k o h1,h2,h3⟩
 have KZ:∀b,Own σ s b→Own σc exts b:=by
  intro b hb
  by_cases he:pj b
  ·obtain⟨k,base,aS,h3⟩:=he
   refine .inr ⟨k,exts[k],base,by simp [aS],?_,by rw[BG k aS];exact h3⟩
   rcases hb with hb|⟨id,o,cg,g1,g2,g3⟩
   ·exact absurd hb (hI.apart _ _ b base (Ea k aS) h3)
   ·have:=hI.inj id _ o _ b cg base g1 (Ea k aS) g2 g3 h3
    subst this
    rw[Ea k aS]at g1
    cases g1
    exact g2
  ·exact .inl ⟨hb,he⟩
 have Td:Inv σc exts w:=by
  refine⟨fun k o ho=>?_,fun k k' o o' b base cg h1 h2 h3 h4 h5=>?_,fun b hb=>ud hI hb.1,fun k o b base h1 h2 hb=>?_⟩
  ·have aS:=(List.getElem?_eq_some_iff.1 ho).1
   rw[BG k aS]
   rcases hI.content _ _ (hs k o ho) with g1|⟨b,base,arr,E,g1,g2,g3,g4,g5⟩
   ·exact .inl g1.down
   ·refine .inr ⟨b,base,arr,E,g1,g2,fun e he=>?_,by simpa [bX]using g4,fun i j x hx=>?_⟩
    ·have:=g3 (bF.go ρ e) (List.mem_map.2 ⟨e,he,rfl⟩)
     rw[gx]at this
     simpa [bX]using this
    ·obtain⟨u,k1,k2,k3⟩:=g5 i j _ (zB hx)
     refine⟨u,k1,k2,tT ue hs BG k3 rfl ?_⟩
     have hobj:=List.all_eq_true.1 Nj o (W6 ho)
     cases xn:o.aV[i]? with
     |none=>rw[xn]at hx;cases hx
     |some e =>
      rw[xn]at hx
      exact List.all_eq_true.1 (List.all_eq_true.1 hobj e (W6 xn)) x (W6 hx)
  ·have l1:=(List.getElem?_eq_some_iff.1 h1).1
   have l2:=(List.getElem?_eq_some_iff.1 h2).1
   rw[BG k l1]at h4
   rw[BG k' l2]at h5
   exact To k k' l1 l2 (hI.inj _ _ _ _ b base cg (hs k o h1) (hs k' o' h2) h3 h4 h5)
  ·have l1:=(List.getElem?_eq_some_iff.1 h1).1
   rw[BG k l1]at h2
   exact hb.2 ⟨k,base,l1,h2⟩
 refine(h.2 σc w vals Td (by rw[hl,iP];simp) (fun i x hx=>tT ue hs BG (hv i _ (by rw[iP,Xd,hx];rfl)) rfl (dx td i x hx))).mono fun e w' ⟨u,v,σ',s',he,hE,jN,hR,hK⟩=>?_
 have hle:exts.length≤s'.length:=by
  rcases Nat.eq_zero_or_pos exts.length with h0|h0
  ·omega
  ·obtain⟨o',g1,_⟩:=hE.au (exts.length-1) exts[exts.length-1] (WZ (by omega))
   have:=(List.getElem?_eq_some_iff.1 g1).1
   omega
 have hK:=hk v s' hK hle
 have PX:∀id∈ρ,id<s.length:=by
  intro id dJ
  obtain⟨k,hk⟩:=List.mem_iff_getElem?.1 dJ
  have aS:k<exts.length:=by have:=(List.getElem?_eq_some_iff.1 hk).1;omega
  have h1:=(List.getElem?_eq_some_iff.1 (Ea k aS)).1
  have:ρ.getD k 0=id:=by simp [List.getD,hk]
  omega
 obtain⟨R,PR⟩:∃R,R=xB ρ s exts s':=⟨_,rfl⟩
 rw[← PR]at hK
 have Nh:R.length=s'.length:=by rw[PR];simp [xB];omega
 have Uy:R.Nodup:=by
  rw[PR];unfold xB
  rw[List.nodup_append]
  refine⟨hnd,List.nodup_range',fun a ha b hb he=>?_⟩
  subst he
  have h1:=PX a ha
  have h2:=List.mem_range'.1 hb
  omega
 have Ju:∀k,k<exts.length→R.getD k 0=ρ.getD k 0:=fun k hk=>by
  rw[PR];unfold xB
  simp only[List.getD]
  rw[Xg (by omega)]
 have On:∀k,exts.length≤k→k<s'.length→R.getD k 0=s.length+(k-exts.length):=fun k h1 h2=>by
  rw[PR];unfold xB
  simp only[List.getD]
  rw[Xm (by omega),List.getElem?_range' (by omega)]
  simp;omega
 have Ry:∀k,k<s'.length→R[k]?=some (R.getD k 0):=fun k hk=>by simp [List.getD,show k<R.length by omega]
 have TD:∀k,k<s'.length→R.getD k 0<s.length+(s'.length-exts.length):=fun k hk=>by
  rcases Xw k exts.length with h1|h1
  ·rw[Ju k h1]
   have:=(List.getElem?_eq_some_iff.1 (Ea k h1)).1
   omega
  ·rw[On k h1 hk];omega
 have NK:aZ s ρ ((s'.take exts.length).map (bX R))++(s'.drop exts.length).map (bX R)=aZ (s++List.replicate (s'.length-exts.length) hole) R (s'.map (bX R)):=by
  have dr:s'.map (bX R)=(s'.take exts.length).map (bX R)++(s'.drop exts.length).map (bX R):=by rw[← XC,List.take_append_drop]
  rw[dr,PR]
  unfold xB
  generalize bX (ρ++List.range' s.length (s'.length-exts.length))=F
  rw[px _ _ _ _ _ (by simp;omega),tP _ _ _ _ PX]
  have Oe:(aZ s ρ ((s'.take exts.length).map F)).length=s.length:=lU _ _ _
  generalize aZ s ρ ((s'.take exts.length).map F)=T at *
  rw[← Oe,vu (s'.length-exts.length) _ T (by simp)]
 rw[NK]at hK
 clear NK
 -- back
 let σn:Gh:=⟨fun id=>match R.idxOf? id with|some k=>σ' k|none=>σ id,σ.base⟩
 have NR:∀k,k<s'.length→R.idxOf? (R.getD k 0)=some k:=by
  intro k hk
  have e1:=Ry k hk
  obtain⟨l1,g1⟩:=List.getElem?_eq_some_iff.1 e1
  rw[List.idxOf?_eq_some_iff]
  refine⟨l1,by simp [g1],fun j hj=>?_⟩
  have SN:j<R.length:=by omega
  intro hb
  have Lq:R[j]=R.getD k 0:=by simpa using hb
  have:=(List.getElem_inj Uy).1 (Lq.trans g1.symm)
  omega
 have AK:∀k,k<s'.length→σn (R.getD k 0)=σ' k:=fun k hk=>by
  show (match R.idxOf? (R.getD k 0) with|some k=>σ' k|none=>σ (R.getD k 0))=σ' k
  rw[NR k hk]
 have B6:∀id,id ∉ R→σn id=σ id:=fun id dJ=>by
  show (match R.idxOf? id with|some k=>σ' k|none=>σ id)=σ id
  rw[List.idxOf?_eq_none_iff.2 dJ]
 have oZ:∀id,id∈R→∃k,k<s'.length∧id=R.getD k 0:=by
  intro id dJ
  obtain⟨k,hk⟩:=List.mem_iff_getElem?.1 dJ
  have aS:=(List.getElem?_eq_some_iff.1 hk).1
  exact⟨k,by omega,by simp [List.getD,hk]⟩
 have tg:(s++List.replicate (s'.length-exts.length) hole).length=s.length+(s'.length-exts.length):=by simp
 have FO:∀(k:Nat) (o:Obj),s'[k]?=some o→(aZ (s++List.replicate (s'.length-exts.length) hole) R (s'.map (bX R)))[R.getD k 0]?=some (bX R o):=by
  intro k o ho
  have aS:k<s'.length:=(List.getElem?_eq_some_iff.1 ho).1
  exact rL R _ _ k _ _ Uy (Ry k aS) (by rw[Xd,ho];rfl) (by rw[tg];exact TD k aS)
 have pd:∀id,id ∉ R→(aZ (s++List.replicate (s'.length-exts.length) hole) R (s'.map (bX R)))[id]?=s[id]?:=fun id dJ=>by
  rw[fz R _ _ id dJ]
  rcases Xw id s.length with h1|h1
  ·rw[Xg h1]
  ·rw[XQ h1]
   refine XQ ?_
   rw[tg]
   rcases Xw id (s.length+(s'.length-exts.length)) with h2|h2
   ·exfalso
    apply dJ
    have e1:=On (exts.length+(id-s.length)) (by omega) (by omega)
    have e2:=Ry (exts.length+(id-s.length)) (by omega)
    rw[e1]at e2
    have e3:s.length+(exts.length+(id-s.length)-exts.length)=id:=by omega
    rw[e3]at e2
    exact W6 e2
   ·exact h2
 have N0:∀id o,id∈R→s[id]?=some o→∃k,k<exts.length∧id=R.getD k 0∧id=ρ.getD k 0:=by
  intro id o dJ ho
  obtain⟨k,hk,rfl⟩:=oZ id dJ
  rcases Xw k exts.length with h1|h1
  ·exact⟨k,h1,rfl,Ju k h1⟩
  ·rw[On k h1 hk]at ho
   have:=(List.getElem?_eq_some_iff.1 ho).1
   omega
 have rT:∀(k:Nat) (o:Obj),k<s'.length→(aZ (s++List.replicate (s'.length-exts.length) hole) R (s'.map (bX R)))[R.getD k 0]?=some o→∃o',s'[k]?=some o'∧o=bX R o':=by
  intro k o aS ho
  have cG:k<s'.length:=by omega
  have:=FO k s'[k] (by simp [cG])
  rw[ho]at this
  exact⟨s'[k],by simp [cG],by simpa using this⟩
 have ga:∀b,b<w.heap.size→Own σ s b→¬pj b→w'.heap[b]?=w.heap[b]?:=fun b hb h1 h2=>hE.ga b hb ⟨h1,h2⟩
 have xq:∀b,σ.base b→¬pj b:=by
  rintro b hb ⟨k,base,aS,h3⟩
  exact hI.apart _ _ b base (Ea k aS) h3 hb
 have oI:∀id o b base,id ∉ R→s[id]?=some o→σ id=some (b,base)→o.live=true→¬pj b:=by
  rintro id o b base dJ ho h1 y7 ⟨k,cg,aS,h3⟩
  have:=hI.inj id _ o _ b base cg ho (Ea k aS) y7 h1 h3
  exact dJ (by rw[this,← Ju k aS];exact W6 (Ry k (by omega)))
 have I1:∀b,Own σn (aZ (s++List.replicate (s'.length-exts.length) hole) R (s'.map (bX R))) b→Own σ' s' b:=by
  rintro b (hb|⟨id,o,base,h1,h2,h3⟩)
  ·left;rw[hE.base];exact⟨.inl hb,xq b hb⟩
  ·by_cases dJ:id∈R
   ·obtain⟨k,aS,rfl⟩:=oZ id dJ
    obtain⟨o',g1,rfl⟩:=rT k o aS h1
    rw[AK k aS]at h3
    exact .inr ⟨k,o',base,g1,h2,h3⟩
   ·rw[pd id dJ]at h1
    rw[B6 id dJ]at h3
    left;rw[hE.base]
    exact⟨.inr ⟨id,o,base,h1,h2,h3⟩,oI id o b base dJ h1 h3 h2⟩
 have Q9:aY σ s w σn (aZ (s++List.replicate (s'.length-exts.length) hole) R (s'.map (bX R))) w':=by
  refine⟨hE.os,hE.tape,hE.output,hE.size,fun b hb ho=>hE.cb b hb fun h'=>ho (ue b h'),fun b arr E ho hh=>hE.shape b arr E (KZ b ho) hh,fun b ho hm=>hE.pD b (KZ b ho) hm,fun b hb=>?_,fun id o ho=>?_,rfl,
   fun b hb hf=>ga b hb (.inl hf) (xq b hf)⟩
  ·rcases hE.own b (I1 b hb) with h'|h'
   ·exact .inl (ue b h')
   ·exact .inr h'
  ·by_cases dJ:id∈R
   ·obtain⟨k,aS,jT,od⟩:=N0 id o dJ ho
    rw[od,Ea k aS]at ho
    simp only[WX]at ho
    subst ho
    obtain⟨o',g1,g2,g3⟩:=hE.au k exts[k] (by simp [aS])
    refine⟨bX R o',by rw[jT];exact FO k o' g1,g2,fun he=>?_⟩
    obtain⟨e1,e2⟩:=g3 he
    refine⟨e1,?_⟩
    have e3:σn id=σ' k:=by rw[jT];exact AK k (by omega)
    rw[e3,e2,BG k aS,od]
   ·exact⟨o,by rw[pd id dJ];exact ho,W4 _,fun _=>⟨rfl,B6 id dJ⟩⟩
 have up:∀{x:V}{u:Value},aI σ' s' w' x u→aI σn (aZ (s++List.replicate (s'.length-exts.length) hole) R (s'.map (bX R))) w' (bF R x) u:=fun hr =>
  J0 I1 FO (fun k hk=>AK k (by omega)) hr
 have hIn:Inv σn (aZ (s++List.replicate (s'.length-exts.length) hole) R (s'.map (bX R))) w':=by
  refine⟨fun id o ho=>?_,fun id jz o o' b base cg h1 h2 h3 h4 h5=>?_,fun b hb=>Nat.lt_of_lt_of_le (hI.low b hb) hE.size,fun id o b base h1 h2 hb=>?_⟩
  ·by_cases dJ:id∈R
   ·obtain⟨k,aS,rfl⟩:=oZ id dJ
    obtain⟨o',g1,rfl⟩:=rT k o aS ho
    rw[AK k aS]
    rcases jN.content k o' g1 with c1|⟨b,base,arr,E,c1,c2,c3,c4,c5⟩
    ·exact .inl c1.up
    ·refine .inr ⟨b,base,arr,E,c1,c2,fun e he=>?_,by simpa [bX]using c4,fun i j y hy=>?_⟩
     ·obtain⟨e',lH,rfl⟩:=List.mem_map.1 he
      rw[gx]
      simpa [bX]using c3 e' lH
     ·obtain⟨x,hx,rfl⟩:=Dv hy
      obtain⟨u,k1,k2,k3⟩:=c5 i j x hx
      exact⟨u,k1,k2,up k3⟩
   ·rw[pd id dJ]at ho
    rw[B6 id dJ]
    refine rn.bS (p:=σ id) Q9 (fun b base hb=>?_) (hI.content id o ho)
    have aS:=hI.lt ho hb
    by_cases hO:Own σ s b
    ·by_cases y7:o.live=true
     ·exact ga b aS hO (oI id o b base dJ ho hb y7)
     ·exfalso
      rcases hO with hO|⟨jz,o',cg,g1,g2,g3⟩
      ·exact hI.apart id o b base ho hb hO
      ·have:=hI.inj jz id o' o b cg base g1 ho g2 g3 hb
       subst this
       rw[ho]at g1;cases g1
       exact y7 g2
    ·exact hE.cb b aS fun h'=>hO (ue b h')
  ·by_cases dJ:id∈R <;> by_cases se:jz∈R
   ·obtain⟨k,aS,rfl⟩:=oZ id dJ
    obtain⟨k',cG,rfl⟩:=oZ jz se
    obtain⟨p,g1,rfl⟩:=rT k o aS h1
    obtain⟨p',Oz,rfl⟩:=rT k' o' cG h2
    rw[AK k aS]at h4
    rw[AK k' cG]at h5
    rw[jN.inj k k' p p' b base cg g1 Oz h3 h4 h5]
   ·exfalso
    obtain⟨k,aS,rfl⟩:=oZ id dJ
    obtain⟨p,g1,rfl⟩:=rT k o aS h1
    rw[AK k aS]at h4
    rw[pd jz se]at h2
    rw[B6 jz se]at h5
    have JN:=hI.lt h2 h5
    have hO:Own σ s b:=by
     rcases hE.own b (.inr ⟨k,p,base,g1,h3,h4⟩) with h'|h'
     ·exact ue b h'
     ·omega
    by_cases y7:o'.live=true
    ·exact jN.apart k p b base g1 h4 (by rw[hE.base];exact⟨hO,oI jz o' b cg se h2 h5 y7⟩)
    ·rcases hO with hO|⟨Sh,o2,KI,q1,q2,q3⟩
     ·exact hI.apart jz o' b cg h2 h5 hO
     ·have:=hI.inj Sh jz o2 o' b KI cg q1 h2 q2 q3 h5
      subst this
      rw[h2]at q1;cases q1
      exact y7 q2
   ·exfalso
    obtain⟨k',cG,rfl⟩:=oZ jz se
    obtain⟨p',Oz,rfl⟩:=rT k' o' cG h2
    rw[AK k' cG]at h5
    rw[pd id dJ]at h1
    rw[B6 id dJ]at h4
    exact jN.apart k' p' b cg Oz h5 (by rw[hE.base];exact⟨.inr ⟨id,o,base,h1,h3,h4⟩,oI id o b base dJ h1 h4 h3⟩)
   ·rw[pd id dJ]at h1
    rw[pd jz se]at h2
    rw[B6 id dJ]at h4
    rw[B6 jz se]at h5
    exact hI.inj id jz o o' b base cg h1 h2 h3 h4 h5
  ·by_cases dJ:id∈R
   ·obtain⟨k,aS,rfl⟩:=oZ id dJ
    obtain⟨p,g1,rfl⟩:=rT k o aS h1
    rw[AK k aS]at h2
    exact jN.apart k p b base g1 h2 (by rw[hE.base];exact⟨.inl hb,xq b hb⟩)
   ·rw[pd id dJ]at h1
    rw[B6 id dJ]at h2
    exact hI.apart id o b base h1 h2 hb
 exact⟨u,bF R v,σn,_,he,Q9,hIn,up hR,hK⟩
def HM (cE:Nat) (s:List Obj) (o:Obj):Option Obj:=(o.aV.mapM (aR.go cE s)).map fun aV=>{ o with aV:=aV }
theorem uJ {α β:Type}{f:α→Option β}:∀{l:List α}{r:List β},l.mapM f=some r→r.length=l.length∧(∀(i:Nat) (y:β),r[i]?=some y→∃x,l[i]?=some x∧f x=some y)∧∀(i:Nat) (x:α),l[i]?=some x→∃y,r[i]?=some y∧f x=some y
 |[],r,h=>by simp at h;subst h;simp
 |a::l,r,h=>by
  simp only[X5,Option.bind_eq_bind,Option.pure_def]at h
  cases ha:f a with
  |none=>rw[ha]at h;simp at h
  |some b =>
   rw[ha]at h
   cases hl:l.mapM f with
   |none=>rw[hl]at h;simp at h
   |some bs =>
    rw[hl]at h
    simp only[XH,WX]at h
    subst h
    obtain⟨k1,k2,k3⟩:=uJ hl
    refine⟨by simp [k1],fun i y hy=>?_,fun i x hx=>?_⟩
    ·cases i with
     |zero=>simp at hy;subst hy;exact⟨a,rfl,ha⟩
     |succ i=>simpa using k2 i y (by simpa using hy)
    ·cases i with
     |zero=>simp at hx;subst hx;exact⟨b,rfl,ha⟩
     |succ i=>simpa using k3 i x (by simpa using hx)
theorem pY {cE:Nat}{s:List Obj}{o o':Obj} (h:HM cE s o=some o'):o'.g=o.g∧o'.live=o.live∧o'.sz=o.sz∧o.aV.mapM (aR.go cE s)=some o'.aV:=by
 unfold HM at h
 obtain⟨aV,h1,rfl⟩:=Option.map_eq_some_iff.1 h
 exact⟨rfl,rfl,rfl,h1⟩
theorem JO {σ:Gh}{s sF:List Obj}{w:World}{cE:Nat} (hI:Inv σ s w) (h:(s.take cE).mapM (HM cE s)=some sF):aY σ (s.take cE) w σ sF w∧Inv σ sF w:=by
 obtain⟨m1,m2,m3⟩:=uJ h
 have uA:∀b,Own σ sF b→Own σ (s.take cE) b:=by
  rintro b (hb|⟨id,o,base,h1,h2,h3⟩)
  ·exact .inl hb
  ·obtain⟨o0,k1,k2⟩:=m2 id o h1
   obtain⟨_,e2,_,_⟩:=pY k2
   exact .inr ⟨id,o0,base,k1,by rw[← e2];exact h2,h3⟩
 have hE:aY σ (s.take cE) w σ sF w:=by
  refine⟨rfl,rfl,rfl,W4 _,fun _ _ _=>rfl,fun _ arr _ _ h=>⟨arr,h,rfl⟩,fun _ _ h=>h,fun b hb=>.inl (uA b hb),fun id o ho=>?_,rfl,fun _ _ _=>rfl⟩
  obtain⟨o',k1,k2⟩:=m3 id o ho
  obtain⟨e1,_,e3,_⟩:=pY k2
  exact⟨o',k1,by omega,fun _=>⟨e3,rfl⟩⟩
 have get:∀(id:Nat) (o:Obj),(s.take cE)[id]?=some o→s[id]?=some o:=by
  intro id o hh
  rw[Xr]at hh
  split at hh
  ·exact hh
  ·cases hh
 refine⟨hE,fun id o ho=>?_,fun id jz o o' b base cg h1 h2 h3 h4 h5=>?_,hI.low,fun id o b base h1 h2=>?_⟩
 ·obtain⟨o0,k1,k2⟩:=m2 id o ho
  obtain⟨e1,e2,e3,e4⟩:=pY k2
  obtain⟨n1,n2,n3⟩:=uJ e4
  rcases hI.content id o0 (get _ _ k1) with (⟨h1,h2⟩|⟨b,es,c,h1,h2,h3⟩)|⟨b,base,arr,E,h1,h2,h3,h4,h5⟩
  ·exact .inl (.inl ⟨h1,Xb (by rw[n1,h2];rfl)⟩)
  ·refine .inl (.inr ⟨b,es,c,h1,h2,?_⟩)
   rw[← h3]
   refine List.ext_getElem? fun i=>?_
   cases hi:o0.aV[i]? with
   |none =>
    have:=List.getElem?_eq_none_iff.1 hi
    exact XQ (by omega)
   |some x =>
    obtain⟨y,y1,y2⟩:=n3 i x hi
    rw[y1]
    have hx:=hi
    rw[h3]at hx
    unfold jQ at hx
    rw[Xd]at hx
    obtain⟨en,_,rfl⟩:=Option.map_eq_some_iff.1 hx
    simp only[aR.go,aR,WX]at y2
    rw[← y2]
  ·refine .inr ⟨b,base,arr,E,h1,h2,fun e he=>?_,by rw[n1,e3];exact h4,fun i j y hy=>?_⟩
   ·obtain⟨i,hi⟩:=List.mem_iff_getElem?.1 he
    obtain⟨x,x1,x2⟩:=n2 i e hi
    rw[(oz x2).1,e3]
    exact h3 x (W6 x1)
   ·cases xn:o.aV[i]? with
    |none=>rw[xn]at hy;cases hy
    |some e =>
     rw[xn]at hy
     obtain⟨x,x1,x2⟩:=n2 i e xn
     obtain⟨v,v1,v2⟩:=(oz x2).2 j y hy
     obtain⟨u,u1,u2,u3⟩:=h5 i j v (by rw[x1];exact v1)
     exact⟨u,by rw[e3];exact u1,u2,(lb hI u3 v2).bS hE⟩
 ·obtain⟨a,k1,k2⟩:=m2 id o h1
  obtain⟨a',VN,RE⟩:=m2 jz o' h2
  exact hI.inj id jz a a' b base cg (get _ _ k1) (get _ _ VN) (by rw[← (pY k2).2.1];exact h3) h4 h5
 ·obtain⟨a,k1,k2⟩:=m2 id o h1
  exact hI.apart id a b base (get _ _ k1) h2
def A2 (cE:Nat) (s:List Obj) (r:V) (K:V→List Obj→Prop):Prop :=
 match (s.take cE).mapM (HM cE s),aR cE s r with
 |some sF,some r'=>K r' sF
 |_,_=>False
def KJ (P:Program) (rs:List ResultVar) (cE:Nat) (K:V→List Obj→Prop) (ex:Exit) (e:Env) (s:List Obj):Prop:=vR ex∧xf P rs e s fun r=>A2 cE s r K
theorem KA {P : Program} {f : FuncId} {fn : Func} {c : Code} {args : List V} {exts : List Obj} {K : V → List Obj → Prop} (hf : P.funcs[f]? = some fn) (hb : fn.body = some c) {N : Nat} (hN : fn.ntmps = N) {rs : Array ResultVar} (Qv : fn.results = rs) (hn : (fn.name != "runtime.NumGoroutine") = true)
  (cE M:Nat) (hl:exts.length≤cE) (ha:args.length≤N)
  (h:codeWp P N cE M c (KJ P rs.toList cE K) (iu args) exts):av P f args exts K:=by
 subst hN;subst Qv
 refine⟨by simp only[HP,hf,hn,hb,Option.isSome_some,Bool.and_self],fun σ w vals hI Px hv=>?_⟩
 refine calls_of_wp hf hb ?_
 have hR:fE σ exts w fn.ntmps (iu args) { tmps:=vals++Array.replicate (fn.ntmps-vals.size) undef,defers:=[] }:=by
  refine⟨rfl,by simp;omega,fun t=>?_⟩
  rw[qh]
  by_cases ht:t<args.length
  ·have h1:=hv t args[t] (by simp [ht])
   have:(vals++Array.replicate (fn.ntmps-vals.size) undef).getD t undef=vals.getD t undef:=by
    rw[Xc,Array.getElem?_append_left (by omega),Xc]
   rw[this]
   simpa [ht]using h1
  ·have:(vals++Array.replicate (fn.ntmps-vals.size) undef).getD t undef=undef:=by
    rw[Xc,Array.getElem?_append_right (by omega),Array.getElem?_replicate]
    split <;> rfl
   rw[this]
   simp [ht]
   exact .un
 refine wp_mono (dB hl c _ (iu args) exts σ w _ (aY.refl _ _ _) hI hR h) fun ex a' w' ⟨e',σ',s',hE,jN,rl,hex,hq⟩=>?_
 obtain⟨v,u,k1,k2,k3⟩:=ph jN rl hq
 unfold A2 at k3
 have fin:a'.defers=[]∧∃v,(results fn a'.tmps).run P w'=.ok v w'∧∃u NG yj tK,Ending.returned v=.returned u∧aY σ exts w yj tK w'∧Inv yj tK w'∧aI yj tK w' NG u∧K NG tK:=by
  refine⟨rl.1,u,k1,?_⟩
  split at k3
  ·rename_i sF r' Vx Pw
   obtain⟨q1,q2⟩:=JO jN Vx
   exact⟨u,r',σ',sF,rfl,(hE.take hl).trans q1,q2,(lb jN k2 Pw).bS q1,k3⟩
  ·exact k3.elim
 rcases uM hex with rfl|rfl
 ·exact fin
 ·exact fin
def MX:V→V
 |.pp _ _ _ _ b a=>.d (.sc (.pointer (some ⟨b,a,none⟩)))
 |v=>v
theorem Iv {σ:Gh}{s:List Obj}{w:World}{x:V}{u:Value} (h:aI σ s w x u):aI σ s w (MX x) u:=by
 unfold MX
 split
 ·rw[h.xl];exact .d (.sc _ rfl)
 ·exact h
theorem JP {P:Program}{f:FuncId}{args:List V}{s:List Obj}{K:V→List Obj→Prop} (h:av P f (args.map MX) s K):av P f args s K:=by
 refine⟨h.1,fun σ w vals hI hl hv=>h.2 σ w vals hI (by simpa using hl) fun i x hx=>?_⟩
 rw[Xd]at hx
 obtain⟨y,hy,rfl⟩:=Option.map_eq_some_iff.1 hx
 exact Iv (hv i y hy)
open Go.ChangeShapes Go.WideShapes Go.ChangeAt Go.RowKit
def NT:Gh:=⟨fun _=>none,fun _=>False⟩
theorem Qf (b:Nat):¬Own NT [] b:=by
 rintro (h|⟨id,o,base,h1,_⟩)
 ·exact h
 ·simp at h1
theorem Sn (w:World):Inv NT [] w :=
 ⟨fun id o h=>by simp at h,fun id jz o o' b base cg h=>by simp at h,fun b h=>h.elim,fun id o b base h=>by simp at h⟩
theorem run_pure {P:Program}{f:FuncId}{args:List V}{r:Bool}{vals:Array Value}{W:World} (h:br P f args (.d (.sc (.bool r)))) (hv:vals.size=args.length) (hrep:∀(i:Nat) (x:V),args[i]?=some x→aI NT [] W x (vals.getD i undef)) :
  Calls P f vals W fun e w'=>e=.returned (.bool r)∧Below W.heap.size W w':=by
 refine(h.2 NT W vals (Sn W) hv hrep).mono fun e w' ⟨u,v,σ',s',h1,h2,h3,h4,h5,h6⟩=>?_
 subst h5
 cases h4 with|d h4=>?_
 cases h4 with|sc _ _=>?_
 exact⟨h1,h2.os,h2.tape,h2.output,h2.size,fun b hb=>h2.cb b hb (Qf b)⟩
theorem KP {W:World}{a:Addr}{len cap:Nat}{zs:List Int}{k:IntKind} (hl:len≤cap) (hz:zs.length=cap) (vi:∀i,i<zs.length→W.cell? (a.add i)=some (.int k (zs.getD i 0))) :
  aI NT [] W (.d (.sl ((zs.take len).map fun x=>[D.sc (.int k x)]))) (.slice (some a) len cap):=by
 have hlen:((zs.take len).map fun x=>[D.sc (Value.int k x)]).length=len:=by simp;omega
 have sA:=dj.sl (O:=Own NT []) (w:=W) ((zs.take len).map fun x=>[D.sc (.int k x)]) a cap 1 (fun i _=>.int k (zs.getD i 0)) (by rw[hlen];exact hl)
  (fun gr=>by
   have:0<len:=by
    rcases Nat.eq_zero_or_pos len with h|h
    ·subst h;simp at gr
    ·exact h
   have:=World.cell?_spot (vi 0 (by omega))
   simpa [Addr.add]using this)
  (fun e he=>by obtain⟨x,_,rfl⟩:=List.mem_map.1 he;rfl)
  (fun i j x hx=>by
   simp only[Xd]at hx
   cases hi:(zs.take len)[i]? with
   |none=>simp [hi]at hx
   |some y =>
    simp only[hi,XE,XH]at hx
    have hj:j=0:=by cases j with|zero=>rfl|succ j=>simp at hx
    subst hj
    have SU:i<len∧i<zs.length:=by
     have:=(List.getElem?_eq_some_iff.1 hi).1
     simp at this;omega
    refine⟨?_,Qf _⟩
    have dr:=World.cell?_spot (vi 0 (by omega))
    have hc:=vi i SU.2
    obtain⟨b,off,sp⟩:=a
    have S4:sp=none:=by simpa [Addr.add]using dr
    subst S4
    rw[add_plain]at hc
    simpa using hc)
  (fun i j x hx=>by
   simp only[Xd]at hx
   cases hi:(zs.take len)[i]? with
   |none=>simp [hi]at hx
   |some y =>
    simp only[hi,XE,XH]at hx
    have hj:j=0:=by cases j with|zero=>rfl|succ j=>simp at hx
    subst hj
    simp only[W9,WX]at hx
    subst hx
    have SU:i<len∧i<zs.length:=by
     have:=(List.getElem?_eq_some_iff.1 hi).1
     simp at this;omega
    have hy:zs.getD i 0=y:=by
     rw[Xr,if_pos SU.1]at hi
     simp [List.getD,hi]
    rw[hy]
    exact .sc _ rfl)
 rw[hlen]at sA
 exact .d sA
open Go.ChangeShapes Go.WideShapes Go.ChangeAt Go.RowKit
theorem CB {H:Type}{enc:TypeId×Value→H}{P:Program}{W:World}{t e:TypeId}{k:IntKind}{a0:Option Addr}{len cap:Nat}{d:DataW H}{ps:List MemPlace} (ht:P.underlying t=some (.slice e)) (he:P.underlying e=some (.int k)) (hc:P.cellsOf e=1)
  (h:DataW.Trod enc P W 0 (fun _=>true) true t (.slice a0 len cap) d ps) :
  ∃l:List Int,(∀x∈l,(Lit.int k x).wf=true)∧aI NT [] W (.d (.sl (l.map fun x=>[D.sc (.int k x)]))) (.slice a0 len cap):=by
 obtain⟨UQ,hf⟩:=h
 rcases open_ints ht he hc hf with ⟨nI,hx⟩|⟨a,V5,ri,zs,nI,_,hl,hm,hz,hx,vi,VE⟩
 ·simp [Value.cells]at nI
  obtain⟨rfl,rfl,rfl⟩:=nI
  exact⟨[],fun x hx=>by (cases hx),.d .nil⟩
 ·simp [Value.cells]at nI
  obtain⟨rfl,rfl,rfl⟩:=nI
  simp only[if_true]at hz
  exact⟨zs.take len,fun x hx=>VE x (List.mem_of_mem_take hx),KP hl hz vi⟩
section
variable {H:Type}{enc:TypeId×Value→H}{P:Program}{w:World}{base:Nat}{spare:Nat→Bool}{held:Bool}
end
end Go.VL
