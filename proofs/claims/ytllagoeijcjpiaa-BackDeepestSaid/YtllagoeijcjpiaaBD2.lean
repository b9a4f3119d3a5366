/- A part of the proof (Vn Vo Vp Vpa Vgr Vq Vr Vs Vt Vv Vw Vy Vz Vza Vzb Vzc Vzd Vze Vu Vx). -/
import Derived.ProofKit
import Derived.OpenShut
import Derived.Test.YtllagoeijcjpiaaBD1
set_option linter.unusedSimpArgs false
set_option linter.unusedVariables false
set_option maxRecDepth 100000
set_option maxHeartbeats 80000000
namespace Go.VL
def Iv (acc:List Nat) (es:List Edge):Nat :=
 es.foldl (fun m e=>if Region.binds .any e then m ||| 2 ^ e.on ||| acc.getD e.on 0 else m) 0
def Ag:List Oper→List Nat→List Nat
 |[],acc=>acc
 |o::rest,acc=>Ag rest (acc++[Iv acc o.after.toList])
def Nq (ms:List Nat) (i j:Nat):Bool:=(ms.getD j 0).testBit i
def js (full:List Oper) (L:Nat→Prop):Prop:=∀j o,full[j]?=some o→L j→∀e∈o.after.toList,Region.binds .any e=true→L e.on
theorem rC {L:Nat→Prop}{acc:List Nat} (kz:∀j i,(acc.getD j 0).testBit i=true→L j→L i):∀(es:List Edge) (m:Nat),(∀e∈es,Region.binds .any e=true→L e.on)→(∀i,m.testBit i=true→L i) →
  ∀i,(es.foldl (fun m e=>if Region.binds .any e then m ||| 2 ^ e.on ||| acc.getD e.on 0 else m) m).testBit i=true→L i
 |[],m,_,hm,i,h=>hm i h
 |e::es,m,he,hm,i,h=>by
  simp only[List.foldl_cons]at h
  refine rC kz es _ (fun e' h'=>he e' (List.mem_cons_of_mem _ h')) (fun i' h'=>?_) i h
  split at h'
  ·rename_i hb
   have Tu:=he e (List.mem_cons_self ..) hb
   rw[Nat.testBit_or,Nat.testBit_or,Nat.testBit_two_pow]at h'
   simp only[Bool.or_eq_true,decide_eq_true_eq]at h'
   rcases h' with (h'|h')|h'
   ·exact hm i' h'
   ·rw[← h'];exact Tu
   ·exact kz _ _ h' Tu
  ·exact hm i' h'
theorem wS {full:List Oper}{L:Nat→Prop} (hL:js full L):∀(l:List Oper) (acc:List Nat),(∀j,l[j]?=full[acc.length+j]?)→(∀j i,(acc.getD j 0).testBit i=true→L j→L i) →
  ∀j i,Nq (Ag l acc) i j=true→L j→L i
 |[],acc,_,kz,j,i,h,hj=>kz j i h hj
 |o::rest,acc,hl,kz,j,i,h,hj=>by
  simp only[Ag]at h
  refine wS hL rest _ (fun k=>by have:=hl (k+1);simpa [Wk,Nat.add_comm 1 k]using this) (fun k i' hk Rc=>?_) j i h hj
  by_cases aT:k<acc.length
  ·rw[List.getD_eq_getElem?_getD,VH aT,← List.getD_eq_getElem?_getD]at hk
   exact kz k i' hk Rc
  ·by_cases heq:k=acc.length
   ·subst heq
    rw[List.getD_eq_getElem?_getD,VF (VA _)]at hk
    simp only[Wv,VQ,Option.getD_some]at hk
    have ho:full[acc.length]?=some o:=by have:=hl 0;simpa using this.symm
    exact rC kz _ 0 (fun e he hb=>hL _ o ho Rc e he hb) (by simp) i' hk
   ·rw[List.getD_eq_getElem?_getD,Wb (by simp;omega)]at hk
    simp at hk
abbrev cN:=List (Nat×List Nat×List Nat)
def fZ:cN→Nat→Option (List Nat×List Nat)
 |[],_=>none
 |(k,f)::l,i=>if k=i then some f else fZ l i
def lh (fs:cN) (i:Nat):List Nat :=
 match fZ fs i with
 |some (_,w)=>w
 |none=>[]
def A9:cN→List Nat
 |[]=>[]
 |(_,_,w)::l=>w++A9 l
theorem Dd:∀{fs:cN}{i id:Nat},id∈lh fs i→id∈A9 fs
 |[],i,id,h=>by simp [lh,fZ]at h
 |(k,r,w)::l,i,id,h=>by
  unfold lh at h
  simp only[fZ]at h
  simp only[A9,Wq]
  by_cases hk:k=i
  ·rw[if_pos hk]at h;exact .inl h
  ·rw[if_neg hk]at h;exact .inr (Dd h)
def IU (fs:cN) (i id:Nat):Prop :=
 match fZ fs i with
 |some (r,_)=>id∈r
 |none=>id ∉ A9 fs
def pP (fs:cN) (i j:Nat):Bool :=
 match fZ fs i,fZ fs j with
 |some (r,w),some (r',w')=>w.all (fun id=>!r'.contains id&&!w'.contains id)&&w'.all fun id=>!r.contains id
 |_,_=>true
def wZ (full:List Oper) (ms:List Nat) (bars:List Nat) (fs:cN) (i j:Nat) (oi oj:Oper):Bool :=
 Nq ms i j||(oi.apart full.toArray oj&&oj.apart full.toArray oi&&!bars.contains i&&!bars.contains j&&pP fs i j)
def M4 (o:Oper):Bool:=(match o.op with|.select ..=>false|_=>true)&&!(o.dst == some 0)
def iT (full:List Oper) (bars:List Nat) (fs:cN):Bool :=
 let ms:=Ag full []
 full.zipIdx.all (fun (oi,i)=>M4 oi&&oi.after.toList.all (fun e=>!Region.binds .any e||decide (e.on<i))&&full.zipIdx.all fun (oj,j)=>!decide (i<j)||wZ full ms bars fs i j oi oj)
theorem pD {fs:cN}{i j:Nat} (h:pP fs i j=true) {id:Nat} (hw:id∈lh fs i):¬IU fs j id∧id ∉ lh fs j:=by
 have ha:=Dd hw
 unfold pP at h
 unfold lh at hw ⊢
 unfold IU
 cases hi:fZ fs i with
 |none=>rw[hi]at hw;cases hw
 |some x =>
  obtain⟨r,w⟩:=x
  rw[hi]at hw h
  simp only at hw
  cases hj:fZ fs j with
  |none=>exact⟨fun h=>h ha,by simp⟩
  |some y =>
   obtain⟨r',w'⟩:=y
   rw[hj]at h
   simp only[VE,VT]at h
   have:=h.1 id hw
   simp only[VE,Bool.not_eq_true',List.contains_eq_mem,decide_eq_false_iff_not]at this
   exact this
theorem vt {fs:cN}{i j:Nat} (h:pP fs i j=true):pP fs j i=true:=by
 unfold pP at *
 cases hi:fZ fs i with
 |none=>cases fZ fs j <;> rfl
 |some x =>
  cases hj:fZ fs j with
  |none=>rfl
  |some y =>
   obtain⟨r,w⟩:=x
   obtain⟨r',w'⟩:=y
   rw[hi,hj]at h
   simp only[VE,VT,Bool.not_eq_true',List.contains_eq_mem,decide_eq_false_iff_not]at h ⊢
   exact⟨fun id dB=>⟨h.2 id dB,fun hw=>(h.1 id hw).2 dB⟩,fun id dB=>(h.1 id dB).1⟩
theorem xA {P:Program}{c:Call}{e e':Nat→V}{s:List Obj}{K:V→List Obj→Prop} (h0:e 0=e' 0) (h:∀x∈c.operands,ev e x=ev e' x):fS P c e s K=fS P c e' s K:=by
 have iJ:∀x∈c.args.toList,ev e x=ev e' x:=fun x hx=>h x (by simp [Call.operands];exact .inr (by simpa using hx))
 have hm:c.args.toList.map (ev e)=c.args.toList.map (ev e'):=Wn iJ
 unfold fS
 rw[hm]
 cases hc:c.callee with
 |value f =>
  have hf:ev e f=ev e' f:=h f (by simp [Call.operands,hc])
  cases f <;> simp only[hf,h0]
 |invoke r m=>rfl
 |builtin b =>
  cases b
  case len=>rcases hl:c.args.toList with _|⟨x,_|⟨y,l⟩⟩ <;> rcases ht:c.argTypes.toList with _|⟨t,_|⟨t',l'⟩⟩ <;> simp_all
  case cap=>rcases hl:c.args.toList with _|⟨x,_|⟨y,l⟩⟩ <;> rcases ht:c.argTypes.toList with _|⟨t,_|⟨t',l'⟩⟩ <;> simp_all
  case append=>rcases hl:c.args.toList with _|⟨x,_|⟨y,_|⟨z,l⟩⟩⟩ <;> rcases ht:c.argTypes.toList with _|⟨t,_|⟨t',_|⟨TU,l'⟩⟩⟩ <;> simp_all
  case copy=>rcases hl:c.args.toList with _|⟨x,_|⟨y,_|⟨z,l⟩⟩⟩ <;> rcases ht:c.argTypes.toList with _|⟨t,_|⟨t',_|⟨TU,l'⟩⟩⟩ <;> simp_all
  case clear=>rcases hl:c.args.toList with _|⟨x,_|⟨y,l⟩⟩ <;> rcases ht:c.argTypes.toList with _|⟨t,_|⟨t',l'⟩⟩ <;> simp_all
  case min=>rcases hl:c.args.toList with _|⟨x,l⟩ <;> rw[hl]at iJ <;> simp only[Wn fun y hy=>iJ y (List.mem_cons_of_mem _ hy),iJ _ (List.mem_cons_self ..)]
  case max=>rcases hl:c.args.toList with _|⟨x,l⟩ <;> rw[hl]at iJ <;> simp only[Wn fun y hy=>iJ y (List.mem_cons_of_mem _ hy),iJ _ (List.mem_cons_self ..)]
  all_goals rfl
theorem Ex {P:Program}{o:Oper}{e e':Nat→V}{s:List Obj}{K:V→List Obj→Prop} (h0:e 0=e' 0) (h:∀x∈o.op.operands,ev e x=ev e' x):db P o e s K=db P o e' s K:=by
 obtain⟨dst,op,ty,pos,after,guard⟩:=o
 have MF:∀ps:Array (Nat×Operand),(∀x∈ps.map (·.2),ev e x=ev e' x)→(ps.toList.map fun p=>(p.1,ev e p.2))=(ps.toList.map fun p=>(p.1,ev e' p.2)):=fun ps hp =>
  Wn fun p hm=>by
   obtain⟨i,x⟩:=p
   simp only[hp x (Array.mem_map.2 ⟨(i,x),by simpa using hm,rfl⟩)]
 cases op <;> simp only[Op.operands]at h <;> simp only[db]
 case build t ps=>rw[MF ps fun x hx=>h x (by simpa using hx)]
 case buildSlice t n ps=>rw[MF ps fun x hx=>h x (by simpa using hx)]
 case makeFunc fn first captured =>
  rw[Wn (l:=first.toList) fun x hx=>h x (by simp;exact .inl (by simpa using hx)),Wn (l:=captured.toList) fun x hx=>h x (by simp;exact .inr (by simpa using hx))]
 case call c=>exact xA h0 h
 case slice t x lo hi mx=>cases lo <;> cases hi <;> cases mx <;> simp_all
 all_goals (first|rfl|(simp_all;done))
def lN (full:List Oper) (o:Oper) (e:Env):Env:=fun t=>if t∈o.looksAt full.toArray∨t=0 then e t else .any
theorem fK.mask {σ s w N e a} (h:fK σ s w N e a) (full:List Oper) (o:Oper):fK σ s w N (lN full o e) a :=
 ⟨h.1,h.2.1,fun t=>by unfold lN;split;exact h.2.2 t;exact .any⟩
theorem CK {full:List Oper}{o:Oper}{e e':Env} (h0:e 0=e' 0) (h:∀t∈o.looksAt full.toArray,e t=e' t):lN full o e=lN full o e':=by
 funext t
 unfold lN
 split
 ·rename_i ht
  rcases ht with ht|rfl
  ·exact h t ht
  ·exact h0
 ·rfl
def FE (P:Program) (full:List Oper) (o:Oper) (e:Env) (s:List Obj) (v:V) (s1:List Obj):Prop :=
 ∀(σ:Gh) (w:World) (N:Nat) (a:Act),Inv σ s w→fK σ s w N (lN full o e) a→rz P o σ s w a fun v' s'=>v'=v∧s'=s1
def jy (P:Program) (o:Oper) (e:Env) (s:List Obj) (v:V) (s1:List Obj):Prop:=db P o e s fun v' s'=>v'=v∧s'=s1
theorem im {P:Program}{full:List Oper}{o:Oper}{e:Env}{s:List Obj}{v:V}{s1:List Obj} (h:jy P o e s v s1):FE P full o e s v s1:=by
 intro σ w N a hI hR
 refine xY hI hR ?_
 have:db P o e s (fun v' s'=>v'=v∧s'=s1)=db P o (lN full o e) s (fun v' s'=>v'=v∧s'=s1):=Ex (by simp [lN]) fun x hx=>by
  cases x with
  |tmp t =>
   have ht:t∈o.looksAt full.toArray:=List.mem_append_left _ (List.mem_filterMap.2 ⟨.tmp t,by simpa using hx,rfl⟩)
   simp [ev,lN,ht]
  |_=>rfl
 rw[← this];exact h
structure Ba where
 val:Option V
 tf:List Obj→List Obj
def lG (x:Ba):V:=x.val.getD .un
def FC (fs:cN) (k:Nat) (f:List Obj→List Obj):Prop :=
 ∀s,(f s).length=s.length∧(∀id,id ∉ lh fs k→(f s)[id]?=s[id]?)∧∀s',s'.length=s.length→∀id,id∈lh fs k→s'[id]?=s[id]?→(f s)[id]?=(f s')[id]?
def F3 (P:Program) (full:List Oper) (bars:List Nat) (fs:cN) (i:Nat) (o:Oper) (x:Ba) (e:Env) (s:List Obj):Prop :=
 (bars.contains i=false→FC fs i x.tf) ∧
 match x.val with
 |none=>(∀s,x.tf s=s)∧∃g want d,o.guard=some (g,want)∧jM full g=some d∧(e d=.d (.sc (.bool (!want)))∨e d=.un)
 |some v=>(∀g want,o.guard=some (g,want)→∃d,jM full g=some d∧e d=.d (.sc (.bool want))) ∧
   ∀s',s'.length=s.length→(bars.contains i=true→s'=s)→(∀id,IU fs i id→s'[id]?=s[id]?)→FE P full o e s' v (x.tf s')
def Trace (P:Program) (N:Nat) (full:List Oper) (bars:List Nat) (fs:cN):Nat→List Oper→List Ba→Env→List Obj→Env→List Obj→Prop
 |_,[],[],e,s,e',s'=>e'=e∧s'=s
 |i,o::rest,x::tr,e,s,e',s'=>ep N o.dst∧F3 P full bars fs i o x e s∧Trace P N full bars fs (i+1) rest tr (gQ e o.dst (lG x)) (x.tf s) e' s'
 |_,_,_,_,_,_,_=>False
def er:List Oper→List Ba→(Nat→Bool)→Nat→Env→Env
 |o::l,x::tr,L,k,e=>er l tr L (k+1) (if L k then gQ e o.dst (lG x) else e)
 |_,_,_,_,e=>e
theorem zy {e:Env}{d:Nat}{v:V} (h:e d=v):cu e d v=e:=by
 funext t
 unfold cu
 split
 ·rename_i ht;subst ht;exact h.symm
 ·rfl
theorem lU:∀(l:List Oper) (tr:List Ba) (L:Nat→Bool) (k:Nat) (e:Env),(∀j,k≤j→L j=false)→er l tr L k e=e
 |[],_,_,_,_,_=>by simp [er]
 |_::_,[],_,_,_,_=>by simp [er]
 |o::l,x::tr,L,k,e,h=>by
  simp only[er,h k (VA _)]
  exact lU l tr L (k+1) e fun j hj=>h j (by omega)
theorem B7:∀(m:Nat) (l:List Oper) (tr:List Ba) (k:Nat) (e:Env) (o:Oper) (x:Ba),l[m]?=some o→tr[m]?=some x →
  er l tr (fun j=>decide (j<k+m+1)) k e=gQ (er l tr (fun j=>decide (j<k+m)) k e) o.dst (lG x)
 |_,[],_,_,_,_,_,h,_=>by simp at h
 |_,_::_,[],_,_,_,_,_,h=>by simp at h
 |0,o'::l,x'::tr,k,e,o,x,h1,h2=>by
  simp only[VQ,Option.some.injEq]at h1 h2
  subst h1;subst h2
  simp only[er,Nat.add_zero,Wj,decide_false,Vw,if_false,show k<k+1 by omega,decide_true,if_true]
  rw[lU _ _ _ _ _ (fun j hj=>by simp;omega),lU _ _ _ _ _ (fun j hj=>by simp;omega)]
 |m+1,o'::l,x'::tr,k,e,o,x,h1,h2=>by
  have h3:decide (k<k+(m+1)+1)=true:=by simp;omega
  have h4:decide (k<k+(m+1))=true:=by simp
  simp only[er,h3,h4,if_true]
  have:=B7 m l tr (k+1) (gQ e o'.dst (lG x')) o x (by simpa using h1) (by simpa using h2)
  rw[show k+(m+1)+1=k+1+m+1 by omega,show k+(m+1)=k+1+m by omega]
  exact this
theorem nb (e:Env) (d:Option Nat) (v:V) (t:Nat):gQ e d v t=if d=some t then v else e t:=by
 cases d with
 |none=>simp [gQ]
 |some d =>
  simp only[gQ,cu,Option.some.injEq]
  by_cases h:t=d
  ·rw[if_pos h,if_pos h.symm]
  ·rw[if_neg h,if_neg (Ne.symm h)]
theorem iX (t:Nat):∀(l:List Oper) (tr:List Ba) (L L':Nat→Bool) (k:Nat) (e e':Env),e t=e' t→(∀m o,l[m]?=some o→o.dst=some t→L (k+m)=L' (k+m)) →
  er l tr L k e t=er l tr L' k e' t
 |[],_,_,_,_,_,_,he,_=>by simpa [er]using he
 |_::_,[],_,_,_,_,_,he,_=>by simpa [er]using he
 |o::l,x::tr,L,L',k,e,e',he,h=>by
  simp only[er]
  refine iX t l tr L L' (k+1) _ _ ?_ fun m o' jj hd=>by have:=h (m+1) o' (by simpa using jj) hd;simpa [Wk,Nat.add_comm 1 m]using this
  by_cases hd:o.dst=some t
  ·have:=h 0 o rfl hd
   simp only[Nat.add_zero]at this
   rw[this]
   split
   ·rw[nb,nb,if_pos hd,if_pos hd]
   ·exact he
  ·have h1:∀(b:Bool) (f:Env),(if b=true then gQ f o.dst (lG x) else f) t=f t:=fun b f=>by cases b <;> simp [nb,hd]
   rw[h1,h1]
   exact he
def fF:List Ba→(Nat→Bool)→Nat→List Obj→List Obj
 |x::tr,L,k,s=>fF tr L (k+1) (if L k then x.tf s else s)
 |[],_,_,s=>s
theorem ni:∀(tr:List Ba) (L:Nat→Bool) (k:Nat) (s:List Obj),(∀j,k≤j→L j=false)→fF tr L k s=s
 |[],_,_,_,_=>rfl
 |x::tr,L,k,s,h=>by
  simp only[fF]
  rw[ni tr L (k+1) _ fun j hj=>h j (by omega)]
  simp [h k (VA _)]
theorem n9:∀(tr:List Ba) (L L':Nat→Bool) (k:Nat) (s:List Obj),(∀m,m<tr.length→L (k+m)=L' (k+m))→fF tr L k s=fF tr L' k s
 |[],_,_,_,_,_=>rfl
 |x::tr,L,L',k,s,h=>by
  simp only[fF]
  have h0:L k=L' k:=by have:=h 0 (by simp);simpa using this
  rw[h0]
  exact n9 tr L L' (k+1) _ fun m hm=>by
   have:=h (m+1) (by simpa using hm)
   rw[show k+(m+1)=k+1+m by omega]at this
   exact this
theorem Gj:∀(m:Nat) (tr:List Ba) (k:Nat) (s:List Obj) (x:Ba),tr[m]?=some x →
  fF tr (fun j=>decide (j<k+m+1)) k s=x.tf (fF tr (fun j=>decide (j<k+m)) k s)
 |_,[],_,_,_,h=>by simp at h
 |0,x'::tr,k,s,x,h=>by
  simp only[VQ,Option.some.injEq]at h
  subst h
  simp only[fF,Nat.add_zero,Wj,decide_false,Vw,if_false,show k<k+1 by omega,decide_true,if_true]
  rw[ni _ _ _ _ (fun j hj=>by simp;omega),ni _ _ _ _ (fun j hj=>by simp;omega)]
 |m+1,x'::tr,k,s,x,h=>by
  have h3:decide (k<k+(m+1)+1)=true:=by simp;omega
  have h4:decide (k<k+(m+1))=true:=by simp
  simp only[fF,h3,h4,if_true]
  have:=Gj m tr (k+1) (x'.tf s) x (by simpa using h)
  rw[show k+(m+1)+1=k+1+m+1 by omega,show k+(m+1)=k+1+m by omega]
  exact this
theorem nL {bars:List Nat}{fs:cN}{R:Nat→Prop}:∀(tr:List Ba) (L L':Nat→Bool) (k:Nat) (s s':List Obj),
  (∀m x,tr[m]?=some x→bars.contains (k+m)=false→FC fs (k+m) x.tf) →
  (∀m,m<tr.length→L (k+m)=L' (k+m)∧(bars.contains (k+m)=true→L (k+m)=true→s=s'∧∀m',m'<m→L (k+m')=L' (k+m'))∨(bars.contains (k+m)=false∧∀id,R id→id ∉ lh fs (k+m))) →
  s.length=s'.length→(∀id,R id→s[id]?=s'[id]?) →
  (fF tr L k s).length=(fF tr L' k s').length∧∀id,R id→(fF tr L k s)[id]?=(fF tr L' k s')[id]?
 |[],_,_,_,s,s',_,_,hl,h=>⟨hl,h⟩
 |x::tr,L,L',k,s,s',F6,hd,hl,h=>by
  simp only[fF]
  have Sc:∀m y,tr[m]?=some y→bars.contains (k+1+m)=false→FC fs (k+1+m) y.tf:=fun m y hy hb=>by
   have:=F6 (m+1) y (by simpa using hy) (by rw[show k+(m+1)=k+1+m by omega];exact hb)
   rwa [show k+(m+1)=k+1+m by omega]at this
  have next:∀t t':List Obj,t.length=t'.length→(∀id,R id→t[id]?=t'[id]?)→(s=s'→L k=L' k→t=t') →
    (fF tr L (k+1) t).length=(fF tr L' (k+1) t').length∧∀id,R id→(fF tr L (k+1) t)[id]?=(fF tr L' (k+1) t')[id]?:=by
   intro t t' h1 h2 h3
   refine nL tr L L' (k+1) t t' Sc (fun m hm=>?_) h1 h2
   have:=hd (m+1) (by simpa using hm)
   rw[show k+(m+1)=k+1+m by omega]at this
   rcases this with ⟨g1,g2⟩|g
   ·refine .inl ⟨g1,fun hb TQ=>?_⟩
    obtain⟨g3,g4⟩:=g2 hb TQ
    have g0:=g4 0 (by omega)
    rw[Nat.add_zero]at g0
    exact⟨h3 g3 g0,fun m' nu=>by
     have:=g4 (m'+1) (by omega)
     rwa [show k+(m'+1)=k+1+m' by omega]at this⟩
   ·exact .inr g
  have d0:=hd 0 (by simp)
  rw[Nat.add_zero]at d0
  have PH:=F6 0 x rfl
  rw[Nat.add_zero]at PH
  cases hL:L k with
  |false =>
   cases N9:L' k with
   |false =>
    simp only[Vw,if_false]
    exact next s s' hl h fun h _=>h
   |true =>
    simp only[Vw,if_false,if_true]
    rcases d0 with ⟨d0,_⟩|⟨d1,d2⟩
    ·rw[hL,N9]at d0;cases d0
    ·obtain⟨f1,f2,_⟩:=PH d1 s'
     exact next s (x.tf s') (by rw[f1];exact hl) (fun id dB=>by rw[f2 id (d2 id dB)];exact h id dB) fun _ h'=>by rw[hL,N9]at h';cases h'
  |true =>
   cases N9:L' k with
   |false =>
    simp only[Vw,if_false,if_true]
    rcases d0 with ⟨d0,_⟩|⟨d1,d2⟩
    ·rw[hL,N9]at d0;cases d0
    ·obtain⟨f1,f2,_⟩:=PH d1 s
     exact next (x.tf s) s' (by rw[f1];exact hl) (fun id dB=>by rw[f2 id (d2 id dB)];exact h id dB) fun _ h'=>by rw[hL,N9]at h';cases h'
   |true =>
    simp only[if_true]
    cases hb:bars.contains k with
    |true =>
     rcases d0 with ⟨_,d0⟩|⟨d1,_⟩
     ·obtain⟨rfl,_⟩:=d0 hb hL
      exact next _ _ rfl (fun _ _=>rfl) fun _ _=>rfl
     ·rw[hb]at d1;cases d1
    |false =>
     obtain⟨f1,f2,f3⟩:=PH hb s
     obtain⟨Ue,UP,_⟩:=PH hb s'
     refine next _ _ (by rw[f1,Ue];exact hl) (fun id dB=>?_) fun h _=>by rw[h]
     by_cases hw:id∈lh fs k
     ·exact f3 s' hl.symm id hw (h id dB).symm
     ·rw[f2 id hw,UP id hw];exact h id dB
theorem Co {P:Program}{N:Nat}{full:List Oper}{bars:List Nat}{fs:cN}:∀(l:List Oper) (tr:List Ba) (i:Nat) (e:Env) (s:List Obj) (e':Env) (s':List Obj),Trace P N full bars fs i l tr e s e' s' →
  tr.length=l.length∧e'=er l tr (fun _=>true) i e∧s'=fF tr (fun _=>true) i s ∧
  ∀(m:Nat) (o:Oper) (x:Ba),l[m]?=some o→tr[m]?=some x→ep N o.dst∧F3 P full bars fs (i+m) o x (er l tr (fun j=>decide (j<i+m)) i e) (fF tr (fun j=>decide (j<i+m)) i s)
 |[],[],i,e,s,e',s',h=>by
  obtain⟨rfl,rfl⟩:=h
  exact⟨rfl,by simp [er],rfl,fun m o x h=>by simp at h⟩
 |[],_::_,_,_,_,_,_,h=>h.elim
 |_::_,[],_,_,_,_,_,h=>h.elim
 |o::l,x::tr,i,e,s,e',s',h=>by
  obtain⟨hd,hx,ht⟩:=h
  obtain⟨h0,h1,h2,h3⟩:=Co l tr (i+1) _ _ e' s' ht
  refine⟨by simp [h0],by simp only[er,if_true];exact h1,by simp only[fF,if_true];exact h2,fun m o1 x1 ho P0=>?_⟩
  cases m with
  |zero =>
   simp only[VQ,Option.some.injEq]at ho P0
   subst ho;subst P0
   have e1:er (o::l) (x::tr) (fun j=>decide (j<i+0)) i e=e:=lU _ _ _ _ _ fun j hj=>by simp;omega
   have e2:fF (x::tr) (fun j=>decide (j<i+0)) i s=s:=ni _ _ _ _ fun j hj=>by simp;omega
   rw[e1,e2]
   exact⟨hd,hx⟩
  |succ m =>
   have:=h3 m o1 x1 (by simpa using ho) (by simpa using P0)
   rw[show i+(m+1)=i+1+m by omega]
   have aT:decide (i<i+1+m)=true:=by simp;omega
   have e1:er (o::l) (x::tr) (fun j=>decide (j<i+1+m)) i e=er l tr (fun j=>decide (j<i+1+m)) (i+1) (gQ e o.dst (lG x)):=by
    simp only[er,aT,if_true]
   have e2:fF (x::tr) (fun j=>decide (j<i+1+m)) i s=fF tr (fun j=>decide (j<i+1+m)) (i+1) (x.tf s):=by
    simp only[fF,aT,if_true]
   rw[e1,e2]
   exact this
def rk (bB:Array Bool) (j:Nat):Bool:=bB.getD j false
def NF (bB:Array Bool):Nat:=(bB.toList.filter (!·)).length
theorem LQ {bB:Array Bool}{i:Nat} (h:bB.getD i true=false):NF (bB.setIfInBounds i true)<NF bB:=by
 have hi:i<bB.size:=by
  rcases VX i bB.size with h'|h'
  ·exact h'
  ·simp [Array.getElem?_eq_none h']at h
 have hv:bB.toList[i]?=some false:=by
  rw[VI]at h
  rw[V4]
  rw[Array.getElem?_eq_getElem hi]at h ⊢
  simpa using h
 unfold NF
 rw[Array.toList_setIfInBounds]
 generalize bB.toList=l at hv
 clear h hi
 induction l generalizing i with
 |nil=>simp at hv
 |cons b l ih =>
  cases i with
  |zero =>
   simp only[VQ,Option.some.injEq]at hv
   subst hv
   simp
  |succ i =>
   have:=ih (i:=i) (by simpa using hv)
   simp only[V9,List.filter_cons]
   cases b
   ·simp only[Vt,if_true,VC];omega
   ·simpa using this
theorem J2 {bB:Array Bool} (h:NF bB=0) {i:Nat} (hi:i<bB.size):bB.getD i false=true:=by
 unfold NF at h
 rw[List.length_eq_zero_iff,List.filter_eq_nil_iff]at h
 have:=h bB[i] (by simp)
 simpa [Array.getD,hi]using this
section
variable {P:Program}{N:Nat}{full:List Oper}{bars:List Nat}{fs:cN}{tr:List Ba}{e0:Env}{s0:List Obj}
theorem lZ (hd:iT full bars fs=true) {i j:Nat}{oi oj:Oper} (hi:full[i]?=some oi) (hj:full[j]?=some oj) (OK:i<j):wZ full (Ag full []) bars fs i j oi oj=true:=by
 simp only[iT,VT]at hd
 have h1:=hd (oi,i) (by rw[List.mem_zipIdx_iff_getElem?];exact hi)
 simp only[VE,VT]at h1
 have h2:=h1.2 (oj,j) (by rw[List.mem_zipIdx_iff_getElem?];exact hj)
 simpa [OK]using h2
theorem pe (hd:iT full bars fs=true) {i:Nat}{oi:Oper} (hi:full[i]?=some oi) {x:Edge} (hx:x∈oi.after) (hb:Region.binds .any x=true):x.on<i:=by
 simp only[iT,VT]at hd
 have h1:=hd (oi,i) (by rw[List.mem_zipIdx_iff_getElem?];exact hi)
 simp only[VE,VT]at h1
 have:=h1.1.2 x (by simpa using hx)
 simpa [hb]using this
theorem m7 {L:Nat→Prop} (hL:js full L) {i j:Nat} (h:Nq (Ag full []) i j=true) (hj:L j):L i :=
 wS hL full [] (by simp) (by simp) j i h hj
theorem ya (hd:iT full bars fs=true) {L:Nat→Bool} (hL:js full fun j=>L j=true) {i:Nat}{oi:Oper} (hi:full[i]?=some oi) (wk:L i=false)
  (hready:∀x∈oi.after.toList,Region.binds .any x=true→L x.on=true) {m:Nat}{om:Oper} (hm:full[m]?=some om) (gf:m≠i) :
  L m=decide (m<i)∨((om.apart full.toArray oi=true∧oi.apart full.toArray om=true)∧bars.contains m=false∧bars.contains i=false∧pP fs m i=true):=by
 have N9:js full fun j=>L j=true∨j=i:=by
  intro j o ho hj x hx hb
  rcases hj with hj|rfl
  ·exact .inl (hL j o ho hj x hx hb)
  ·rw[hi]at ho;cases ho;exact .inl (hready x hx hb)
 rcases Nat.lt_or_gt_of_ne gf with aT|Rq
 ·have hp:=lZ hd hm hi aT
  simp only[wZ,Bool.or_eq_true]at hp
  rcases hp with hp|hp
  ·rcases m7 N9 hp (.inr rfl) with h|h
   ·exact .inl (by rw[h];simp [aT])
   ·exact absurd h gf
  ·simp only[VE,Bool.not_eq_true']at hp
   obtain⟨⟨⟨⟨a1,a2⟩,a3⟩,a4⟩,a5⟩:=hp
   exact .inr ⟨⟨a1,a2⟩,a3,a4,a5⟩
 ·have hp:=lZ hd hi hm Rq
  simp only[wZ,Bool.or_eq_true]at hp
  rcases hp with hp|hp
  ·cases Fk:L m with
   |false=>exact .inl (by simp;omega)
   |true=>have:=m7 hL hp Fk;rw[wk]at this;cases this
  ·simp only[VE,Bool.not_eq_true']at hp
   obtain⟨⟨⟨⟨a1,a2⟩,a3⟩,a4⟩,a5⟩:=hp
   exact .inr ⟨⟨a2,a1⟩,a4,a3,vt a5⟩
theorem rU (hd:iT full bars fs=true) {L:Nat→Bool} (hL:js full fun j=>L j=true) {k m:Nat} (hk:bars.contains k=true) (Rc:L k=true) (UO:k<full.length) (hm:m<k):L m=true:=by
 have hp:=lZ hd (Vu (by omega:m<full.length)) (Vu UO) hm
 simp only[wZ,Bool.or_eq_true]at hp
 rcases hp with hp|hp
 ·exact m7 hL hp Rc
 ·simp only[VE,Bool.not_eq_true']at hp
  rw[hk]at hp;exact absurd hp.1.2 (by simp)
theorem js.add {L:Nat→Bool} (hL:js full fun j=>L j=true) {i:Nat}{oi:Oper} (hi:full[i]?=some oi) (hready:∀x∈oi.after.toList,Region.binds .any x=true→L x.on=true) {L':Nat→Bool}
  (h':∀j,L' j=(L j||decide (j=i))):js full fun j=>L' j=true:=by
 intro j o ho hj x hx hb
 have hj:L' j=true:=hj
 show L' x.on=true
 rw[h',Bool.or_eq_true]at hj ⊢
 rcases hj with hj|hj
 ·exact .inl (hL j o ho hj x hx hb)
 ·rw[decide_eq_true_eq]at hj;subst hj
  rw[hi]at ho;cases ho
  exact .inl (hready x hx hb)
theorem tK (hd:iT full bars fs=true) {L:Nat→Bool} (hL:js full fun j=>L j=true) {i:Nat}{oi:Oper} (hi:full[i]?=some oi) (wk:L i=false)
  (hready:∀x∈oi.after.toList,Region.binds .any x=true→L x.on=true) {t:Nat} (ht:t∈oi.looksAt full.toArray):er full tr L 0 e0 t=er full tr (fun j=>decide (j<0+i)) 0 e0 t:=by
 refine iX t full tr _ _ 0 _ _ rfl fun m om hm yr=>?_
 simp only[VU]
 by_cases gf:m=i
 ·subst gf;simp [wk]
 ·rcases ya hd hL hi wk hready hm gf with h|⟨⟨h,_⟩,_⟩
  ·exact h
  ·exact absurd ht ((Oper.apart_spec h).1 t yr)
theorem JF (hd:iT full bars fs=true) (L L':Nat→Bool):er full tr L 0 e0 0=er full tr L' 0 e0 0:=by
 refine iX 0 full tr _ _ 0 _ _ rfl fun m om hm yr=>?_
 unfold iT at hd
 have:=List.all_eq_true.1 hd (om,m) (List.mem_zipIdx_iff_getElem?.2 hm)
 simp [M4,yr]at this
theorem Mj (hd:iT full bars fs=true) {L:Nat→Bool} (hL:js full fun j=>L j=true) {i:Nat}{oi:Oper} (hi:full[i]?=some oi) (wk:L i=false)
  (hready:∀x∈oi.after.toList,Region.binds .any x=true→L x.on=true) {x:Ba} (hx:tr[i]?=some x) {L':Nat→Bool} (h':∀j,L' j=(L j||decide (j=i))) :
  er full tr L' 0 e0=gQ (er full tr L 0 e0) oi.dst (lG x):=by
 funext t
 by_cases Qp:oi.dst=some t
 ·rw[nb,if_pos Qp]
  have h1:er full tr L' 0 e0 t=er full tr (fun j=>decide (j<0+i+1)) 0 e0 t:=by
   refine iX t full tr _ _ 0 _ _ rfl fun m om hm yr=>?_
   simp only[VU]
   rw[h']
   by_cases gf:m=i
   ·subst gf;simp
   ·rcases ya hd hL hi wk hready hm gf with h|⟨⟨h,_⟩,_⟩
    ·rw[h];simp only[gf,decide_false,WB];rw[decide_eq_decide];omega
    ·exact absurd Qp ((Oper.apart_spec h).2.1 t yr)
  rw[h1,B7 i full tr 0 e0 oi x hi hx,nb,if_pos Qp]
 ·rw[nb,if_neg Qp]
  refine iX t full tr _ _ 0 _ _ rfl fun m om hm yr=>?_
  simp only[VU]
  rw[h']
  by_cases gf:m=i
  ·subst gf;rw[hi]at hm;cases hm;exact absurd yr Qp
  ·simp [gf]
theorem tC (hd:iT full bars fs=true) (hl:tr.length=full.length) (F6:∀m x,tr[m]?=some x→bars.contains m=false→FC fs m x.tf) {L:Nat→Bool} (hL:js full fun j=>L j=true) {i:Nat}{oi:Oper} (hi:full[i]?=some oi) (wk:L i=false)
  (hready:∀x∈oi.after.toList,Region.binds .any x=true→L x.on=true) {R:Nat→Prop} (hR:∀m,bars.contains i=false→pP fs m i=true→∀id,R id→id ∉ lh fs m) :
  (fF tr L 0 s0).length=(fF tr (fun j=>decide (j<0+i)) 0 s0).length∧∀id,R id→(fF tr L 0 s0)[id]?=(fF tr (fun j=>decide (j<0+i)) 0 s0)[id]?:=by
 have TA:i<full.length:=(List.getElem?_eq_some_iff.1 hi).1
 refine nL (bars:=bars) (fs:=fs) tr _ _ 0 s0 s0 (fun m x hx hb=>by rw[VU]at hb ⊢;exact F6 m x hx hb) (fun m hm=>?_) rfl fun _ _=>rfl
 simp only[VU]
 have Om:bars.contains m=true→L m=true→m<i→∀m',m'<m→L m'=decide (m'<i):=by
  intro hb Fk RQ m' nu
  rw[rU hd hL hb Fk (by omega) nu];simp;omega
 by_cases gf:m=i
 ·subst gf
  exact .inl ⟨by simp [wk],fun _ h=>by rw[wk]at h;cases h⟩
 ·rcases ya hd hL hi wk hready (Vu (by omega:m<full.length)) gf with h|⟨_,h1,h2,h3⟩
  ·exact .inl ⟨h,fun hb Fk=>⟨trivial,Om hb Fk (by rw[Fk]at h;simpa using h.symm)⟩⟩
  ·exact .inr ⟨h1,hR m h2 h3⟩
theorem Of (hd:iT full bars fs=true) (hl:tr.length=full.length) (F6:∀m x,tr[m]?=some x→bars.contains m=false→FC fs m x.tf) {L:Nat→Bool} (hL:js full fun j=>L j=true) {i:Nat}{oi:Oper} (hi:full[i]?=some oi) (wk:L i=false)
  (hready:∀x∈oi.after.toList,Region.binds .any x=true→L x.on=true) {x:Ba} (hx:tr[i]?=some x) {L':Nat→Bool} (h':∀j,L' j=(L j||decide (j=i))) :
  fF tr L' 0 s0=x.tf (fF tr L 0 s0):=by
 have TA:i<full.length:=(List.getElem?_eq_some_iff.1 hi).1
 have aT:=Gj i tr 0 s0 x hx
 rw[VU]at aT
 have Om:∀m,m<tr.length→bars.contains m=true→L m=true→m<i→∀m',m'<m→L m'=decide (m'<i):=by
  intro m hm hb Fk RQ m' nu
  rw[rU hd hL hb Fk (by omega) nu];simp;omega
 by_cases hb:bars.contains i=true
 ·
  have gI:∀m,m<tr.length→L m=decide (m<i):=by
   intro m hm
   by_cases gf:m=i
   ·subst gf;simp [wk]
   ·rcases ya hd hL hi wk hready (Vu (by omega:m<full.length)) gf with h|⟨_,_,h2,_⟩
    ·exact h
    ·rw[hb]at h2;cases h2
  rw[n9 tr L (fun j=>decide (j<i)) 0 s0 fun m hm=>by rw[VU];exact gI m hm,← aT]
  refine n9 tr _ _ 0 s0 fun m hm=>?_
  rw[VU,h',gI m hm]
  by_cases gf:m=i
  ·subst gf;simp
  ·simp only[gf,decide_false,WB];rw[decide_eq_decide];omega
 ·have hb:bars.contains i=false:=by simpa using hb
  obtain⟨f1,f2,f3⟩:=F6 i x hx hb (fF tr L 0 s0)
  -- off Ru i writes: nothing is new
  have Su:=nL (bars:=bars) (fs:=fs) (R:=fun id=>id ∉ lh fs i) tr L' L 0 s0 s0 (fun m y hy hb=>by rw[VU]at hb ⊢;exact F6 m y hy hb) (fun m hm=>by
    simp only[VU]
    by_cases gf:m=i
    ·subst gf;exact .inr ⟨hb,fun id dB=>dB⟩
    ·have e1:L' m=L m:=by rw[h'];simp [gf]
     refine .inl ⟨e1,fun OX Fk=>⟨trivial,fun m' nu=>?_⟩⟩
     rw[e1]at Fk
     have:=rU hd hL OX Fk (by omega) nu
     rw[h',this];rfl) rfl fun _ _=>rfl
  -- on Ru i writes: as in K2 R5 order
  have UJ:=nL (bars:=bars) (fs:=fs) (R:=fun id=>id∈lh fs i) tr L' (fun j=>decide (j<i+1)) 0 s0 s0 (fun m y hy hb=>by rw[VU]at hb ⊢;exact F6 m y hy hb) (fun m hm=>by
    simp only[VU]
    by_cases gf:m=i
    ·subst gf
     refine .inl ⟨by rw[h'];simp,fun OX _=>by rw[hb]at OX;cases OX⟩
    ·have e1:L' m=L m:=by rw[h'];simp [gf]
     rcases ya hd hL hi wk hready (Vu (by omega:m<full.length)) gf with h|⟨_,h1,_,h3⟩
     ·refine .inl ⟨by rw[e1,h,decide_eq_decide];omega,fun OX Fk=>⟨trivial,fun m' nu=>?_⟩⟩
      rw[e1]at Fk
      have RQ:m<i:=by rw[Fk]at h;simpa using h.symm
      rw[h',Om m hm OX Fk RQ m' nu]
      simp only[show m'≠i by omega,decide_false,WB];rw[decide_eq_decide];omega
     ·exact .inr ⟨h1,fun id dB=>(pD (vt h3) dB).2⟩) rfl fun _ _=>rfl
  refine List.ext_getElem? fun id=>?_
  by_cases hw:id∈lh fs i
  ·have:=tC (s0:=s0) hd hl F6 hL hi wk hready (R:=fun id=>id∈lh fs i) (fun m _ hc id dB hm=>(pD hc hm).2 dB)
   rw[VU]at this
   rw[UJ.2 id hw,aT,f3 _ this.1.symm id hw (this.2 id hw).symm]
  ·rw[Su.2 id hw,f2 id hw]
theorem Dy {σ:Gh}{s:List Obj}{w:World}{e:Env}{a:Act}{o:Oper}{g:Nat}{want:Bool}{d:Nat} (hR:fK σ s w N e a) (ho:o.guard=some (g,want)) (hg:jM full g=some d) :
  (e d=.d (.sc (.bool want))→Region.wanted o (yielded full.toArray a.tmps)=true)∧(e d=.d (.sc (.bool (!want)))∨e d=.un→Region.wanted o (yielded full.toArray a.tmps)=false):=by
 constructor
 ·intro h
  have hw:jw (jM full g) e want (fun _=>True) (fun _=>False):=by
   rw[hg];simp [jw,h]
  obtain⟨_,_,h|h⟩:=r6 hR ho hw
  ·exact h.1
  ·exact h.2.elim
 ·intro h
  have hw:jw (jM full g) e want (fun _=>False) (fun _=>True):=by
   rw[hg]
   rcases h with h|h <;> simp [jw,h]
  obtain⟨_,_,h|h⟩:=r6 hR ho hw
  ·exact h.2.elim
  ·exact h.1
theorem H6 (hd:iT full bars fs=true) {e1:Env}{s1:List Obj} (ht:Trace P N full bars fs 0 full tr e0 s0 e1 s1)
  {Q0:Gh}{Pb:List Obj}{Q3:World}{Q:Exit→Env→List Obj→Prop} (hQ:Q .normal e1 s1):∀(fuel:Nat) (bB:Array Bool) (σ:Gh) (w:World) (a:Act),bB.size=full.length→NF bB≤fuel →
  (js full fun j=>rk bB j=true)→bc Q0 Pb Q3 σ (fF tr (rk bB) 0 s0) w→Inv σ (fF tr (rk bB) 0 s0) w→fK σ (fF tr (rk bB) 0 s0) w N (er full tr (rk bB) 0 e0) a →
  wpAny P .any full.toArray (QX Q0 Pb Q3 N Q) fuel bB a w:=by
 intro fuel
 obtain⟨hl,t1,t2,t3⟩:=Co full tr 0 e0 s0 e1 s1 ht
 have F6:∀m x,tr[m]?=some x→bars.contains m=false→FC fs m x.tf:=by
  intro m x hx hb
  have hm:m<full.length:=by have:=(List.getElem?_eq_some_iff.1 hx).1;omega
  have:=(t3 m full[m] x (Vu hm) hx).2.1
  rw[VU]at this
  exact this hb
 -- when nothing is ready all is bB
 have A0:∀bB:Array Bool,bB.size=full.length→Region.ready .any full.toArray bB=[]→∀j,j<full.length→rk bB j=true:=by
  intro bB gH hr j
  induction j using Nat.strongRecOn with
  |_ j ih =>
   intro hj
   cases S4:rk bB j with
   |true=>rfl
   |false =>
    exfalso
    have:j∈Region.ready .any full.toArray bB:=by
     rw[mem_ready]
     refine⟨?_,full[j],by simp [hj],fun x hx hb=>?_⟩
     ·unfold rk at S4
      have:j<bB.size:=by omega
      simpa [Array.getD,this]using S4
     ·exact ih x.on (pe hd (Vu hj) hx hb) (by
       have:=pe hd (Vu hj) hx hb;omega)
    rw[hr]at this
    cases this
 have fin:∀(bB:Array Bool) (σ:Gh) (w:World) (a:Act),(∀j,j<full.length→rk bB j=true)→bc Q0 Pb Q3 σ (fF tr (rk bB) 0 s0) w→Inv σ (fF tr (rk bB) 0 s0) w →
   fK σ (fF tr (rk bB) 0 s0) w N (er full tr (rk bB) 0 e0) a→QX Q0 Pb Q3 N Q .normal a w:=by
  intro bB σ w a gI hE hI hR
  have he:er full tr (rk bB) 0 e0=e1:=by
   rw[t1]
   funext t
   refine iX t full tr _ _ 0 _ _ rfl fun m om hm _=>?_
   rw[VU]
   exact gI m (List.getElem?_eq_some_iff.1 hm).1
  have hs:fF tr (rk bB) 0 s0=s1:=by
   rw[t2]
   refine n9 tr _ _ 0 _ fun m hm=>?_
   rw[VU]
   exact gI m (by omega)
  rw[he,hs]at hR
  rw[hs]at hE hI
  exact⟨e1,σ,s1,hE,hI,hR,hQ⟩
 have C7:∀bB:Array Bool,(∀j,j<full.length→rk bB j=true)→Region.ready .any full.toArray bB=[]:=by
  intro bB gI
  rw[List.eq_nil_iff_forall_not_mem]
  intro j hj
  rw[mem_ready]at hj
  obtain⟨h0,o,ho,_⟩:=hj
  have La:j<full.length:=by simpa using (Array.getElem?_eq_some_iff.1 ho).1
  have:=gI j La
  unfold rk at this
  rw[VI]at this h0
  cases hx:bB[j]? with
  |none=>rw[hx]at h0;cases h0
  |some b=>rw[hx]at this h0;simp only[Option.getD_some]at this h0;rw[this]at h0;cases h0
 induction fuel with
 |zero =>
  intro bB σ w a gH hu hL hE hI hR
  have gI:∀j,j<full.length→rk bB j=true:=fun j hj=>J2 (by omega) (by omega)
  exact⟨C7 bB gI,fin bB σ w a gI hE hI hR⟩
 |succ fuel ih =>
  intro bB σ w a gH hu hL hE hI hR
  refine⟨fun hr=>fin bB σ w a (A0 bB gH hr) hE hI hR,fun i To=>?_⟩
  rw[mem_ready]at To
  obtain⟨h0,o,ho,M9⟩:=To
  have TA:i<full.length:=by simpa using (Array.getElem?_eq_some_iff.1 ho).1
  have K6:full[i]?=some o:=by simpa using ho
  have wk:rk bB i=false:=by
   unfold rk
   have:i<bB.size:=by omega
   simp only[Array.getD,this,dif_pos]at h0 ⊢
   exact h0
  have hready:∀x∈o.after.toList,Region.binds .any x=true→rk bB x.on=true:=fun x hx hb=>M9 x (by simpa using hx) hb
  have hx:∃x,tr[i]?=some x:=⟨tr[i],Vu (by omega)⟩
  obtain⟨x,hx⟩:=hx
  have h':∀j,rk (bB.setIfInBounds i true) j=(rk bB j||decide (j=i)):=by
   intro j
   unfold rk
   by_cases Rm:j=i
   ·subst Rm
    have:j<bB.size:=by omega
    simp [this]
   ·rw[getD_set_ne false (Ne.symm Rm)];simp [Rm]
  have Mw:=ih (bB.setIfInBounds i true)
  have SZ:=Mj (tr:=tr) (e0:=e0) hd hL K6 wk hready hx h'
  have Qy:=Of (s0:=s0) hd hl F6 hL K6 wk hready hx h'
  have cI:=js.add hL K6 hready h'
  have Vi:=LQ h0
  obtain⟨yr,_,Jm⟩:=t3 i o x K6 hx
  unfold wpOp
  rw[ho]
  simp only
  cases hv:x.val with
  |none =>
   rw[hv]at Jm
   obtain⟨aH,g,want,d,hg,Ou,It⟩:=Jm
   have Bm:d∈o.looksAt full.toArray:=by
    unfold jM at Ou
    split at Ou
    ·rename_i og N8
     simp [Oper.looksAt,hg,N8,Ou]
    ·cases Ou
   rw[← tK (tr:=tr) (e0:=e0) hd hL K6 wk hready Bm]at It
   rw[(Dy hR hg Ou).2 It]
   simp only[Vw,if_false]
   rw[aH]at Qy
   refine Mw σ w _ (by simpa using gH) (by omega) cI (by rw[Qy];exact hE) (by rw[Qy];exact hI) ?_
   rw[Qy,SZ]
   have:lG x=.un:=by simp [lG,hv]
   rw[this]
   exact hR.put yr .un
  |some v =>
   rw[hv]at Jm
   obtain⟨Ou,AB⟩:=Jm
   have Pq:Region.wanted o (yielded full.toArray a.tmps)=true:=by
    cases hg:o.guard with
    |none=>simp [Region.wanted,hg]
    |some gw =>
     obtain⟨g,want⟩:=gw
     obtain⟨d,It,TG⟩:=Ou g want hg
     have Bm:d∈o.looksAt full.toArray:=by
      unfold jM at It
      split at It
      ·rename_i og N8
       simp [Oper.looksAt,hg,N8,It]
      ·cases It
     rw[← tK (tr:=tr) (e0:=e0) hd hL K6 wk hready Bm]at TG
     exact(Dy hR hg It).1 TG
   rw[if_pos Pq]
   have Pj:FE P full o (er full tr (rk bB) 0 e0) (fF tr (rk bB) 0 s0) v (fF tr (rk (bB.setIfInBounds i true)) 0 s0):=by
    have hm:lN full o (er full tr (rk bB) 0 e0)=lN full o (er full tr (fun j=>decide (j<0+i)) 0 e0):=CK (JF hd _ _) fun t ht=>tK hd hL K6 wk hready ht
    unfold FE
    rw[hm,Qy]
    refine AB _ ?_ ?_ ?_
    ·exact(tC (s0:=s0) hd hl F6 hL K6 wk hready (R:=fun _=>False) (fun _ _ _ _ h=>h.elim)).1
    ·intro hb
     rw[VU]at hb
     have:=tC (s0:=s0) hd hl F6 hL K6 wk hready (R:=fun _=>True) (fun _ h=>by rw[hb]at h;cases h)
     exact List.ext_getElem? fun id=>this.2 id trivial
    ·intro id dB
     rw[VU]at dB
     exact(tC (s0:=s0) hd hl F6 hL K6 wk hready (R:=fun id=>IU fs i id) (fun m _ hc id dB hw=>(pD hc hw).1 dB)).2 id dB
   refine .inl (Oper.wp_mono (fun a' w' ⟨u,v',σ',s',ha,uD,jF,oN,hK⟩=>?_) (Oper.Gm (Pj σ w N a hI (hR.mask full o))))
   obtain⟨rfl,rfl⟩:=hK
   subst ha
   refine Mw σ' w' _ (by simpa using gH) (by omega) cI (hE.trans uD) jF ?_
   rw[SZ]
   have:lG x=v':=by simp [lG,hv]
   rw[this]
   exact(hR.bM uD).put yr oN
theorem CX (hm:P.follows .mixedOrders=true) (hd:iT full bars fs=true) {e:Env}{s:List Obj}{e1:Env}{s1:List Obj} (ht:Trace P N full bars fs 0 full tr e s e1 s1) {K:Env→List Obj→Prop} (hK:K e1 s1):uJ P N full e s K:=by
 intro σ0 Pb w0 Q RK σ w a id hE hI hR
 refine wp_region_any hm ?_
 have hf:∀j,rk (Array.replicate full.toArray.size false) j=false:=by
  intro j
  unfold rk
  rw[VI,Array.getElem?_replicate]
  split <;> rfl
 have hs:fF tr (rk (Array.replicate full.toArray.size false)) 0 s=s:=ni _ _ _ _ fun j _=>hf j
 have he:er full tr (rk (Array.replicate full.toArray.size false)) 0 e=e:=lU _ _ _ _ _ fun j _=>hf j
 refine H6 hd ht (RK e1 s1 hK) _ _ σ _ a (by simp) ?_ (fun j o _ hj=>by have hj:rk _ j=true:=hj;rw[hf j]at hj;cases hj) ?_ ?_ ?_
 ·unfold NF
  refine Nat.le_trans (List.length_filter_le _ _) (by simp)
 ·rw[hs];exact hE.trans (lS hI).1
 ·rw[hs];exact(lS hI).2
 ·rw[hs,he];exact hR.bM (lS hI).1
end
def iF (X:(V→Prop)→Prop):Prop:=∀K,X K→∃v,X (fun v'=>v'=v)∧K v
def mX (X:(V→List Obj→Prop)→Prop):Prop:=∀K,X K→∃v s,X (fun v' s'=>v'=v∧s'=s)∧K v s
theorem pX {agg n cs}:iF (mQ agg n cs):=by
 intro K h
 unfold mQ at *
 cases agg with
 |true=>exact⟨_,⟨h.1,rfl⟩,h.2⟩
 |false =>
  cases cs with
  |nil=>exact h.2.elim
  |cons v l=>exact⟨v,⟨h.1,rfl⟩,h.2⟩
theorem jG {s id g}{F:Obj→(V→Prop)→Prop} (hF:∀o,iF (F o)):iF fun K=>pB s id g fun o=>F o K:=by
 intro K h
 unfold pB at *
 cases hs:s[id]? with
 |none=>rw[hs]at h;exact h.elim
 |some o =>
  simp only[hs]at h ⊢
  obtain⟨v,h1,h2⟩:=hF o K h.2
  exact⟨v,⟨h.1,h1⟩,h2⟩
theorem xT {s id g}{F:Obj→(V→List Obj→Prop)→Prop} (hF:∀o,mX (F o)):mX fun K=>pB s id g fun o=>F o K:=by
 intro K h
 unfold pB at *
 cases hs:s[id]? with
 |none=>rw[hs]at h;exact h.elim
 |some o =>
  simp only[hs]at h ⊢
  obtain⟨v,s1,h1,h2⟩:=hF o K h.2
  exact⟨v,s1,⟨h.1,h1⟩,h2⟩
theorem bw {v:V}:iF fun K=>K v:=fun _ h=>⟨v,rfl,h⟩
theorem aS:iF fun _=>False:=fun _ h=>h.elim
theorem bX {c:Prop}{X:(V→Prop)→Prop} (h:iF X):iF fun K=>c∧X K:=fun K hk =>
 let ⟨v,h1,h2⟩:=h K hk.2
 ⟨v,⟨hk.1,h1⟩,h2⟩
theorem cZ {v:V}{s:List Obj}:mX fun K=>K v s:=fun _ h=>⟨v,s,⟨rfl,rfl⟩,h⟩
theorem bh:mX fun _=>False:=fun _ h=>h.elim
theorem cQ {c:Prop}{X:(V→List Obj→Prop)→Prop} (h:mX X):mX fun K=>c∧X K:=fun K hk =>
 let ⟨v,s,h1,h2⟩:=h K hk.2
 ⟨v,s,⟨hk.1,h1⟩,h2⟩
theorem fi {X:(V→Prop)→Prop}{s:List Obj} (h:iF X):mX fun K=>X fun v=>K v s:=by
 intro K hk
 obtain⟨v,h1,h2⟩:=h _ hk
 refine⟨v,s,?_,h2⟩
 simpa using h1
theorem Ee {P t s p}:iF (jH P t s p):=by
 unfold jH
 cases bS P t with
 |none=>exact aS
 |some i =>
  simp only
  cases p with
  |d x =>
   cases x with
   |el cs=>exact pX
   |_=>exact aS
  |rf id g k off =>
   simp only
   cases s[id]? with
   |none=>exact aS
   |some o =>
    simp only
    cases o.aL[k]? with
    |none=>exact bX aS
    |some cs=>exact bX pX
  |pp id g k off b a =>
   simp only
   cases s[id]? with
   |none=>exact aS
   |some o =>
    simp only
    cases o.aL[k]? with
    |none=>exact bX aS
    |some cs=>exact bX pX
  |bx v=>exact pX
  |_=>exact aS
theorem vH {P t s p f}:iF (eG P t s p f):=by
 unfold eG
 cases aX P t f with
 |none=>exact aS
 |some i =>
  simp only
  split
  ·exact bw
  ·exact jG fun _=>bw
  ·exact jG fun _=>bw
  ·exact bw
  ·exact aS
theorem Gd {aL i z}:iF (MU aL i z):=by
 unfold MU
 cases aL[i]? with
 |none=>exact aS
 |some cs=>exact bX bw
theorem vF {P t s x i}:iF (dP P t s x i):=by
 unfold dP
 split
 ·split
  ·split
   ·exact bX (bX Gd)
   ·exact bX (bX Gd)
   ·exact jG fun _=>bX (bX (bX bw))
   ·exact aS
  ·split
   ·split
    ·exact bX (bX bw)
    ·exact jG fun _=>bX (bX bw)
    ·exact aS
   ·exact aS
 ·exact aS
theorem wK {P t cs off}:iF (oZ P t cs off):=by
 unfold oZ
 cases bS P t with
 |none=>exact aS
 |some i =>
  simp only
  cases i.agg with
  |true=>exact bX bw
  |false =>
   simp only
   cases cs[off]? with
   |none=>exact aS
   |some v=>exact bw
theorem DI {P t x f}:iF (ke P t x f):=by
 unfold ke
 split
 ·split
  ·split
   ·exact wK
   ·exact aS
  ·exact aS
 ·exact aS
theorem CD {P t x i}:iF (iO P t x i):=by
 unfold iO
 split
 ·split
  ·split
   ·split
    ·exact bX (bX wK)
    ·exact aS
   ·exact aS
  ·exact aS
 ·exact aS
theorem CA {P t parts}:iF (mL P t parts):=by
 unfold mL
 split
 ·exact aS
 ·split
  ·split
   ·exact bw
   ·exact aS
  ·split
   ·split
    ·exact bw
    ·exact aS
   ·exact aS
theorem DG {P t s}:mX (mK P t s):=by
 unfold mK
 split
 ·exact bh
 ·exact cZ
theorem G9 {s x}:mX (vp s x):=by
 unfold vp
 split
 ·exact bh
 ·exact cZ
theorem tN {P t len parts s}:mX (eC P t len parts s):=by
 unfold eC
 split
 ·exact bh
 ·refine cQ ?_
  split
  ·exact bh
  ·split
   ·exact cZ
   ·exact cZ
theorem vO {P t l c s}:mX (fx P t l c s):=by
 unfold fx
 split
 ·exact bh
 ·split
  ·exact cQ cZ
  ·exact bh
theorem A4 {P t a x s}:mX (dD P t a x s):=by
 unfold dD
 split
 ·exact bh
 ·split
  ·exact bh
  ·refine cQ ?_
   split
   ·split
    ·exact cQ cZ
    ·exact cQ cZ
   ·exact xT fun _=>cQ cZ
   ·exact bh
theorem yq {P t t' a x s}:mX (jg P t t' a x s):=by
 unfold jg
 split
 ·exact bh
 ·split
  ·split
   ·exact cQ cZ
   ·exact bh
  ·exact bh
theorem H7 {P t x}:iF (DE P t x):=by
 unfold DE
 split
 ·split
  ·exact bw
  ·exact aS
 ·exact aS
theorem yk {P t x lo hi mx}:iF (jO P t x lo hi mx):=by
 unfold jO
 split
 ·exact aS
 ·split
  ·exact bX bw
  ·exact aS
theorem BB {P t x lo hi mx s}:iF (jq P t x lo hi mx s):=by
 unfold jq
 split
 ·exact yk
 ·split
  ·exact aS
  ·split
   ·refine bX ?_
    split
    ·exact bX bw
    ·exact bX bw
    ·exact bX (bX (bX bw))
    ·refine jG fun _=>bX ?_
     split
     ·exact bw
     ·exact bw
    ·exact aS
   ·exact aS
theorem Iq {P t x s}:iF (jB P t x s):=by
 unfold jB
 split
 ·split
  ·exact bw
  ·exact bw
  ·exact jG fun _=>bw
  ·exact aS
 ·split
  ·exact bw
  ·exact aS
 ·exact aS
theorem H4 {op k a b}:iF (eP op k a b):=by
 unfold eP
 split <;> first|exact bw|exact bX bw|exact aS|(split <;> first|exact bw|exact bX bw|exact aS)
theorem CV {P op t xs ys}:iF (ij P op t xs ys):=by
 unfold ij
 split
 ·refine bX ?_
  split <;> first|exact bw|exact aS
 ·refine bX ?_
  split <;> first|exact bw|exact aS
 ·exact aS
theorem Fi {P op t s x y}:iF (dC P op t s x y):=by
 unfold dC
 split <;> first|exact CV|exact bX H4|exact aS|(refine bX ?_;split <;> first|exact bw|exact aS)|(refine bX (bX ?_);split <;> first|exact bw|exact aS)|(split <;> first|exact bw|exact aS)
theorem HP {P op t s x y}:iF (mP P op t s x y):=by
 unfold mP
 split
 ·unfold ov
  split
  ·exact bX bw
  ·exact aS
 ·exact Fi
theorem Cp {P op t s x}:iF (ef P op t s x):=by
 unfold ef
 refine bX (bX ?_)
 split <;> first|exact bw|exact aS|exact jG fun _=>bw
theorem JT {op x}:iF (vJ op x):=by
 unfold vJ
 split <;> first|exact bw|exact aS
theorem Eh {P a b x}:iF (mU P a b x):=by
 unfold mU
 split
 ·split <;> first|exact bw|exact aS
 ·exact aS
theorem oc {mn}:∀(ys:List V) (acc:V),iF (eU mn acc ys)
 |[],acc=>bw
 |y::ys,acc=>by
  intro K h
  unfold eU at h
  split at h
  ·obtain⟨v,h1,h2⟩:=oc ys _ K h
   exact⟨v,by unfold eU;exact h1,h2⟩
  ·exact h.elim
theorem HT {s x}:iF (ir s x):=by
 unfold ir
 split
 ·exact bw
 ·exact jG fun _=>bw
 ·exact jG fun _=>bw
 ·exact bw
 ·exact bw
 ·exact aS
theorem Hf {x i}:iF (s7 x i):=by
 unfold s7
 split
 ·split
  ·exact bw
  ·exact aS
 ·exact aS
theorem CH {x a b s}:mX fun K=>fV x (K a s) (K b s):=by
 unfold fV
 split
 ·rename_i b'
  cases b' with
  |true=>intro K h;exact⟨a,s,by simp,h.1 rfl⟩
  |false=>intro K h;exact⟨b,s,by simp,h.2 rfl⟩
 ·exact bh
theorem Dg {P t s p x}:mX fun K=>gm P t s p x fun s'=>K .un s':=by
 unfold gm
 split
 ·exact bh
 ·split
  ·split
   ·exact bh
   ·refine cQ (cQ ?_)
    split
    ·exact bh
    ·split
     ·exact bh
     ·exact cQ (cQ cZ)
  ·split
   ·exact bh
   ·refine cQ (cQ ?_)
    split
    ·exact bh
    ·split
     ·exact bh
     ·exact cQ (cQ cZ)
  ·exact bh
theorem Fj {P t a x s}:mX (oW P t a x s):=by
 unfold oW
 split
 ·exact bh
 ·split
  ·exact bh
  ·refine cQ ?_
   split
   ·unfold pB
    split
    ·exact bh
    ·exact cQ (cQ cZ)
   ·exact bh
theorem Bq {P t x s}:mX (kW P t x s):=by
 unfold kW
 split
 ·exact bh
 ·split
  ·unfold pB
   split
   ·exact bh
   ·exact cQ (cQ cZ)
  ·exact cZ
  ·exact bh
theorem BP {P t s m k}:iF (mI P t s m k):=by
 unfold mI
 split
 ·exact aS
 ·split
  ·split
   ·refine jG fun _=>bX ?_
    split
    ·exact aS
    ·exact bw
   ·exact aS
  ·exact aS
theorem E9 {P t s m k x}:mX fun K=>w6 P t s m k x fun s'=>K .un s':=by
 unfold w6
 split
 ·exact bh
 ·split
  ·split
   ·split
    ·refine xT fun _=>cQ ?_
     split
     ·exact bh
     ·exact cQ cZ
    ·exact bh
   ·exact bh
  ·exact bh
theorem AD {P t s m k}:iF (gZ P t s m k):=by
 unfold gZ
 split
 ·exact BP
 ·split
  ·split
   ·refine jG fun _=>bX ?_
    split
    ·exact aS
    ·exact bw
   ·exact aS
  ·exact aS
theorem y4 {P t s m k x}:mX fun K=>rB P t s m k x fun s'=>K .un s':=by
 unfold rB
 split
 ·exact E9
 ·split
  ·split
   ·split
    ·refine xT fun _=>cQ ?_
     split
     ·exact bh
     ·exact cQ cZ
    ·exact bh
   ·exact bh
  ·exact bh
theorem yQ {P t r s}:mX (lz P t r s):=cQ cZ
def EK (o:Oper):Bool :=
 match o.op with
 |.call c=>match c.callee with
  |.value _=>true
  |_=>false
 |_=>false
theorem Eu {P o e s} (hc:EK o=false):mX (db P o e s):=by
 obtain⟨dst,op,ty,pos,after,guard⟩:=o
 unfold db
 cases op <;> simp only
 case move=>exact cZ
 case assign=>exact cZ
 case pick=>exact CH
 case alloc=>exact DG
 case box=>exact G9
 case build=>exact fi CA
 case buildSlice=>exact tN
 case load=>exact fi Ee
 case store=>exact Dg
 case nilCheck=>exact fi HT
 case binOp op t x y t' =>
  cases IV y with
  |true=>exact fi Cp
  |false=>exact fi HP
 case unOp=>exact fi JT
 case convert=>exact fi Eh
 case makeFunc=>exact cZ
 case makeSlice=>exact vO
 case slice=>exact fi BB
 case fieldAddr=>exact fi vH
 case field=>exact fi DI
 case indexAddr=>exact fi vF
 case index=>exact fi CD
 case extract=>exact fi Hf
 case makeMap=>exact yQ
 case lookup t x i ok =>
  cases ok with
  |true=>exact bh
  |false=>exact fi AD
 case mapUpdate=>exact y4
 case insert=>exact y4
 case call c =>
  unfold fS
  simp only[EK]at hc
  split
  ·rename_i h;rw[h]at hc;cases hc
  ·rename_i h;rw[h]at hc;cases hc
  ·split
   ·exact fi Iq
   ·split
    ·exact A4
    ·exact yq
   ·exact cQ Fj
   ·exact Bq
   ·exact fi (oc _ _)
   ·exact fi (oc _ _)
   ·exact fi H7
   ·exact bh
  ·exact bh
 all_goals exact bh
def fh:V→List Nat
 |.rf id _ _ _=>[id]
 |.pp id _ _ _ _ _=>[id]
 |.so id _ _ _=>[id]
 |.mp id _=>[id]
 |_=>[]
def oE (e:Env) (o:Oper):List Nat :=
 match o.op with
 |.move _|.assign _|.pick ..|.build ..|.buildSlice ..|.makeFunc ..=>[]
 |.load _ a=>fh (sL (e 0) (ev e a))
 |_=>o.op.operands.toList.flatMap fun x=>fh (ev e x)
def Ic (o:Oper):Bool :=
 match o.op with
 |.move _|.assign _|.pick ..|.build ..|.buildSlice ..|.load ..|.nilCheck _|.binOp ..|.unOp ..|.convert ..|.makeFunc ..|.slice ..|.fieldAddr ..|.field ..|.indexAddr ..|.index ..|.extract ..|.lookup ..=>true
 |.call c=>match c.callee with
  |.builtin .len=>true
  |.builtin .min=>true
  |.builtin .max=>true
  |.builtin .append=>true
  |_=>false
 |_=>false
section
variable {P:Program}{s s':List Obj}
theorem e9 {id g:Nat} (h:s'[id]?=s[id]?) (K:Obj→Prop):pB s id g K=pB s' id g K:=by
 unfold pB;rw[h]
theorem Bj {t:TypeId}{p:V} (h:∀id∈fh p,s'[id]?=s[id]?) (K:V→Prop):jH P t s p K=jH P t s' p K:=by
 unfold jH
 cases bS P t with
 |none=>rfl
 |some i =>
  cases p with
  |rf id g k off=>simp only[h id (by simp [fh])]
  |pp id g k off b a=>simp only[h id (by simp [fh])]
  |d x=>cases x <;> rfl
  |_=>rfl
theorem tE {t:TypeId}{p:V}{f:Nat} (h:∀id∈fh p,s'[id]?=s[id]?) (K:V→Prop):eG P t s p f K=eG P t s' p f K:=by
 unfold eG
 cases aX P t f with
 |none=>rfl
 |some d =>
  cases p with
  |rf id g k off=>simp only[e9 (h id (by simp [fh]))]
  |pp id g k off b a=>simp only[e9 (h id (by simp [fh]))]
  |d x=>simp only;split <;> first|rfl|(rename_i he;cases he)
  |_=>rfl
theorem tG {t:TypeId}{p i:V} (h:∀id∈fh p,s'[id]?=s[id]?) (K:V→Prop):dP P t s p i K=dP P t s' p i K:=by
 unfold dP
 split
 ·split
  ·cases p with
   |so id g lo n=>simp only[e9 (h id (by simp [fh]))]
   |d x=>cases x <;> rfl
   |_=>rfl
  ·split
   ·cases p with
    |rf id g k off=>simp only[e9 (h id (by simp [fh]))]
    |d x=>cases x <;> rfl
    |_=>rfl
   ·rfl
 ·rfl
theorem Dp {t:TypeId}{p:V} (h:∀id∈fh p,s'[id]?=s[id]?) (K:V→Prop):jB P t p s K=jB P t p s' K:=by
 unfold jB
 split
 ·cases p with
  |so id g lo n=>simp only[e9 (h id (by simp [fh]))]
  |d x=>cases x <;> rfl
  |_=>rfl
 ·rfl
 ·rfl
theorem yM {t:TypeId}{p k:V} (h:∀id∈fh p,s'[id]?=s[id]?) (K:V→Prop):mI P t s p k K=mI P t s' p k K:=by
 unfold mI
 cases xj P t with
 |none=>rfl
 |some ik =>
  cases p with
  |mp id g=>simp only[e9 (h id (by simp [fh]))]
  |_=>rfl
theorem xQ {t:TypeId}{p k:V} (h:∀id∈fh p,s'[id]?=s[id]?) (K:V→Prop):gZ P t s p k K=gZ P t s' p k K:=by
 unfold gZ
 cases Cg P t with
 |none=>exact yM h K
 |some ik =>
  cases p with
  |mp id g=>simp only[e9 (h id (by simp [fh]))]
  |_=>rfl
theorem Ce {p:V} (h:∀id∈fh p,s'[id]?=s[id]?) (K:V→Prop):ir s p K=ir s' p K:=by
 cases p with
 |rf id g k off=>simp only[ir,e9 (h id (by simp [fh]))]
 |pp id g k off b a=>simp only[ir,e9 (h id (by simp [fh]))]
 |d x=>unfold ir;split <;> first|rfl|(rename_i he;cases he)
 |cl f a b=>cases f <;> rfl
 |_=>rfl
theorem x9 {p:V} (h:∀id∈fh p,s'[id]?=s[id]?):gG s p=gG s' p:=by
 unfold gG
 cases p with
 |so id g lo n=>simp only[h id (by simp [fh])]
 |d x=>cases x <;> rfl
 |_=>rfl
theorem yX {t:TypeId}{p:V}{lo hi mx:Option V} (h:∀id∈fh p,s'[id]?=s[id]?) (K:V→Prop):jq P t p lo hi mx s K=jq P t p lo hi mx s' K:=by
 unfold jq
 rw[x9 h]
 split
 ·rfl
 ·split
  ·rfl
  ·split
   ·congr 1
    cases mx with
    |none =>
     cases p with
     |so id g lo n=>simp only[e9 (h id (by simp [fh]))]
     |d x=>cases x <;> rfl
     |_=>rfl
    |some m =>
     cases p with
     |d x=>cases x <;> rfl
     |_=>rfl
   ·rfl
theorem yU {op:BinOp}{t:TypeId}{p:V} (h:∀id∈fh p,s'[id]?=s[id]?) (K:V→Prop):ef P op t s p K=ef P op t s' p K:=by
 unfold ef
 cases p with
 |so id g lo n=>cases n <;> simp only[e9 (h id (by simp [fh]))]
 |d x=>cases x with
  |sl aL=>cases aL <;> rfl
  |_=>rfl
 |fu aL=>cases aL <;> rfl
 |_=>rfl
theorem vn {p:V} (h:∀id∈fh p,s'[id]?=s[id]?):ml s p=ml s' p:=by
 unfold ml
 cases p with
 |rf id g k off=>simp only[e9 (h id (by simp [fh]))]
 |pp id g k off b a=>simp only[e9 (h id (by simp [fh]))]
 |d x=>cases x <;> rfl
 |_=>rfl
theorem AK {op:BinOp}{t:TypeId}{x y:V} (h:∀id∈fh x,s'[id]?=s[id]?) (h':∀id∈fh y,s'[id]?=s[id]?) (K:V→Prop):dC P op t s x y K=dC P op t s' x y K:=by
 unfold dC
 split <;> simp only[vn h,vn h']
theorem DA {op:BinOp}{t:TypeId}{x y:V} (h:∀id∈fh x,s'[id]?=s[id]?) (h':∀id∈fh y,s'[id]?=s[id]?) (K:V→Prop):mP P op t s x y K=mP P op t s' x y K:=by
 unfold mP
 split
 ·rfl
 ·exact AK h h' K
theorem N6 {s:List Obj}{id:Nat}{o n:Obj} (ho:s[id]?=some o) (hn:n.g≠o.g):s.set id n≠s:=by
 intro h
 have h1:=V8 (a:=n) (List.getElem?_eq_some_iff.1 ho).1
 rw[h,ho]at h1
 cases h1
 exact hn rfl
theorem Dc {t:TypeId}{a x v:V} (h:∀id∈fh a,s'[id]?=s[id]?) (h':∀id∈fh x,s'[id]?=s[id]?) (hw:dD P t a x s fun v' s1=>v'=v∧s1=s):dD P t a x s' fun v' s1=>v'=v∧s1=s':=by
 unfold dD at hw ⊢
 rw[x9 h']at hw
 split at hw
 ·exact hw.elim
 rename_i i hi
 split at hw
 ·exact hw.elim
 rename_i ns tJ
 refine⟨hw.1,?_⟩
 have hw:=hw.2
 split at hw
 ·split at hw
  ·exact⟨hw.1,hw.2.1,rfl⟩
  ·exact absurd (congrArg List.length hw.2.2) (by simp)
 ·exfalso
  obtain⟨o,ho,hg,⟨_,_,hs⟩⟩:=dT hw
  exact N6 ho (by simp only;omega) hs
 ·exact hw.elim
theorem yS {t t':TypeId}{a x v:V} (hw:jg P t t' a x s fun v' s1=>v'=v∧s1=s):False:=by
 unfold jg at hw
 split at hw
 ·exact hw
 ·split at hw
  ·split at hw
   ·exact absurd (congrArg List.length hw.2.2) (by simp)
   ·exact hw
  ·exact hw
theorem Ca {o:Oper}{e:Env}{v:V} (hr:Ic o=true) (h:∀id∈oE e o,s'[id]?=s[id]?) (hw:db P o e s fun v' s1=>v'=v∧s1=s):db P o e s' fun v' s1=>v'=v∧s1=s':=by
 obtain⟨dst,op,ty,pos,after,guard⟩:=o
 have rd:(oE e ⟨dst,op,ty,pos,after,guard⟩=op.operands.toList.flatMap fun x=>fh (ev e x))→∀x∈op.operands.toList,∀id∈fh (ev e x),s'[id]?=s[id]?:=fun he x hx id dB=>h id (by rw[he];exact List.mem_flatMap.2 ⟨x,hx,dB⟩)
 unfold db at hw ⊢
 cases op <;> simp only[Ic,Vw]at hr <;> simp only at hw ⊢
 case move=>exact hw
 case assign=>exact hw
 case pick=>simpa using hw
 case build=>exact hw
 case buildSlice =>
  unfold eC at hw ⊢
  split at hw
  ·exact hw.elim
  ·refine⟨hw.1,?_⟩
   have hw:=hw.2
   split at hw
   ·exact hw.elim
   ·split at hw
    ·exact⟨hw.1,rfl⟩
    ·exact absurd (congrArg List.length hw.2) (by simp)
 case load t a=>rw[Bj (fun id dB=>h id (by simpa [oE]using dB))]at hw;exact hw
 case nilCheck a=>rw[Ce (rd rfl a (by simp [Op.operands]))]at hw;exact hw
 case binOp op t x y t' =>
  cases hn:IV y with
  |true=>rw[hn]at hw;simp only[cond_true]at hw ⊢;rw[yU (rd rfl x (by simp [Op.operands]))]at hw;exact hw
  |false=>rw[hn]at hw;simp only[cond_false]at hw ⊢;rw[DA (rd rfl x (by simp [Op.operands])) (rd rfl y (by simp [Op.operands]))]at hw;exact hw
 case unOp=>exact hw
 case convert=>exact hw
 case makeFunc=>exact hw
 case slice t x lo hi mx=>rw[yX (rd rfl x (by simp [Op.operands]))]at hw;exact hw
 case fieldAddr t x f=>rw[tE (rd rfl x (by simp [Op.operands]))]at hw;exact hw
 case field=>exact hw
 case indexAddr t x i=>rw[tG (rd rfl x (by simp [Op.operands]))]at hw;exact hw
 case index=>exact hw
 case extract=>exact hw
 case lookup t x i ok =>
  cases ok with
  |true=>exact hw.elim
  |false=>simp only[cond_false]at hw ⊢;rw[xQ (rd rfl x (by simp [Op.operands]))]at hw;exact hw
 case call c =>
  obtain⟨callee,args,argTypes⟩:=c
  cases callee with
  |value f=>cases hr
  |invoke r m=>cases hr
  |builtin b =>
   unfold fS at hw ⊢
   simp only at hw ⊢ hr
   split at hw
   ·rename_i x t ha ht
    rw[Dp (rd rfl x (by simp [Op.operands,Call.operands,ha]))]at hw
    exact hw
   ·rename_i a x t t' ha ht
    split at hw
    ·rename_i SM
     rw[if_pos SM]
     exact Dc (rd rfl a (by simp [Op.operands,Call.operands,ha])) (rd rfl x (by simp [Op.operands,Call.operands,ha])) hw
    ·exact(yS hw).elim
   ·first|(cases hr;done)|(simp at hr;done)
   ·first|(cases hr;done)|(simp at hr;done)
   ·exact hw
   ·exact hw
   ·first|exact hw|(cases hr;done)|(simp at hr;done)
   ·exact hw.elim
end
def bA (s:List Obj) (id:Nat):List Obj :=
 match s[id]? with
 |some o=>s.set id { o with live:=false }
 |none=>s
def bk (s:List Obj):List Nat→List Obj
 |[]=>s
 |id::ids=>bk (bA s id) ids
theorem nC {s:List Obj}{id jJ:Nat}{o:Obj} (h:(bA s id)[jJ]?=some o):∃o',s[jJ]?=some o'∧o.g=o'.g∧o.sz=o'.sz∧o.aL=o'.aL∧(o.live=true→o'.live=true):=by
 unfold bA at h
 split at h
 ·rename_i o0 D9
  rw[List.getElem?_set]at h
  split at h
  ·rename_i he
   subst he
   split at h
   ·simp only[Option.some.injEq]at h;subst h;exact⟨o0,D9,rfl,rfl,rfl,fun h=>by cases h⟩
   ·cases h
  ·exact⟨o,h,rfl,rfl,rfl,fun h=>h⟩
 ·exact⟨o,h,rfl,rfl,rfl,fun h=>h⟩
theorem Kl {s:List Obj}{id jJ:Nat}{o:Obj} (h:s[jJ]?=some o):∃o',(bA s id)[jJ]?=some o'∧o'.g=o.g∧o'.sz=o.sz:=by
 unfold bA
 split
 ·rename_i o0 D9
  rw[List.getElem?_set]
  split
  ·rename_i he
   subst he
   rw[D9]at h;cases h
   rw[if_pos (List.getElem?_eq_some_iff.1 D9).1]
   exact⟨_,rfl,rfl,rfl⟩
  ·exact⟨o,h,rfl,rfl⟩
 ·exact⟨o,h,rfl,rfl⟩
theorem Kg {σ:Gh}{s:List Obj}{w:World} (hI:Inv σ s w) (id:Nat):bc σ s w σ (bA s id) w∧Inv σ (bA s id) w:=by
 have own:∀b,Own σ (bA s id) b→Own σ s b:=by
  rintro b (h|⟨jJ,o,base,h1,h2,h3⟩)
  ·exact .inl h
  ·obtain⟨o',k1,_,_,_,k5⟩:=nC h1
   exact .inr ⟨jJ,o',base,k1,k5 h2,h3⟩
 have hE:bc σ s w σ (bA s id) w:=⟨rfl,rfl,rfl,VA _,fun _ _ _=>rfl,fun _ arr _ _ h=>⟨arr,h,rfl⟩,fun _ _ h=>h,fun b h=>.inl (own b h),
  fun jJ o ho=>let ⟨o',k1,k2,k3⟩:=Kl (id:=id) ho;⟨o',k1,by omega,fun _=>⟨k3,rfl⟩⟩,rfl,fun _ _ _=>rfl⟩
 refine⟨hE,⟨fun jJ o ho=>?_,fun i i' o o' b base cj h1 h2 h3 h4 h5=>?_,hI.low,fun i o b base h1 h2=>?_⟩⟩
 ·obtain⟨o',k1,_,k3,k4,_⟩:=nC ho
  rw[k4,k3]
  rcases hI.content jJ o' k1 with h|⟨b,base,arr,E,h1,h2,h3,h4,h5⟩
  ·exact .inl (h.congr k4)
  ·exact .inr ⟨b,base,arr,E,h1,h2,h3,h4,fun i j x hx=>let ⟨u,g1,g2,g3⟩:=h5 i j x hx;⟨u,g1,g2,g3.bM hE⟩⟩
 ·obtain⟨p,k1,_,_,_,k5⟩:=nC h1
  obtain⟨p',l1,_⟩:=nC h2
  exact hI.inj i i' p p' b base cj k1 l1 (k5 h3) h4 h5
 ·obtain⟨p,k1,_⟩:=nC h1
  exact hI.apart i p b base k1 h2
theorem tA {σ:Gh}{w:World}:∀(ids:List Nat) (s:List Obj),Inv σ s w→bc σ s w σ (bk s ids) w∧Inv σ (bk s ids) w
 |[],s,hI=>⟨bc.refl _ _ _,hI⟩
 |id::ids,s,hI=>by
  obtain⟨h1,h2⟩:=Kg hI id
  obtain⟨k1,k2⟩:=tA ids (bA s id) h2
  exact⟨h1.trans k1,k2⟩
theorem aP {P:Program}{f:FuncId}{args cargs:List V}{s:List Obj}{K:V→List Obj→Prop} (ids:List Nat) (hc:aZ.go (bk s ids).length (bk s ids) args=some cargs) (h:az P f cargs (bk s ids) K):az P f args s K:=by
 refine⟨h.1,fun σ w vals hI hl hv=>?_⟩
 obtain⟨hE,jF⟩:=tA ids s hI
 obtain⟨k1,k2⟩:=nS hc
 refine(h.2 σ w vals jF (by omega) fun i x hx=>?_).mono fun e w' ⟨u,v,σ',s',h1,h2,h3,h4,h5⟩=>⟨u,v,σ',s',h1,hE.trans h2,h3,h4,h5⟩
 obtain⟨y,hy,hf⟩:=k2 i x hx
 have:=lA jF ((hv i y hy).bM hE) hf
 rwa [We]at this
def Fw (cL:Nat) (s:List Obj) (x:V):V:=(aZ cL s x).getD .any
theorem CS {σ:Gh}{s:List Obj}{w:World} (hI:Inv σ s w) {cL:Nat}{x:V}{u:Value} (hr:aJ σ s w x u):aJ σ (s.take cL) w (Fw cL s x) u:=by
 unfold Fw
 cases h:aZ cL s x with
 |none=>exact .any
 |some y=>exact lA hI hr h
theorem kq {cL:Nat}:∀{l:List V},(∀(i:Nat) (x:V),l[i]?=some x→ar cL x=true)→ar.go cL l=true
 |[],_=>rfl
 |v::vs,h=>by
  simp only[ar.go,VE]
  exact⟨h 0 v rfl,kq fun i x hx=>h (i+1) x (by simpa using hx)⟩
theorem fT {s:List Obj}{id:Nat}{o:Obj} (h:s[id]?=some o):id<s.length:=(List.getElem?_eq_some_iff.1 h).1
theorem aJ.Ob {σ:Gh}{s:List Obj}{w:World}{x:V}{u:Value} (h:aJ σ s w x u):ar s.length x=true:=by
 induction h with
 |d hx=>rfl
 |ag h1 h2 _ ih=>exact kq ih
 |tu h1 _ ih=>exact kq ih
 |fu hx=>rfl
 |so o ho hg hu hk=>exact decide_eq_true (fT ho)
 |rf o ho hg hu hk=>exact decide_eq_true (fT ho)
 |pp o ho hg hk=>exact decide_eq_true (fT ho)
 |mp o ho hg hu hk=>exact decide_eq_true (fT ho)
 |bx h1 h2 h3 hu _ ih=>exact ih
 |cap h1 _ ih=>exact ih
 |cl h1 _ h3 _ yj gz =>
  simp only[ar,VE]
  exact⟨kq yj,kq gz⟩
 |un=>rfl
 |any=>rfl
theorem aJ.Jf {σ σ':Gh}{s s':List Obj}{w:World}{n:Nat} (gK:∀b,Own σ' s' b→Own σ s b)
  (hobj:∀id o,id<n→s[id]?=some o→∃o',s'[id]?=some o'∧o.g≤o'.g∧(o'.g=o.g→o'.sz=o.sz∧σ' id=σ id)) {x:V}{u:Value} (hr:aJ σ s w x u) (h:ar n x=true):aJ σ' s' w x u:=by
 induction hr with
 |d hx=>exact .d (hx.own gK)
 |ag h1 h2 _ ih=>exact .ag h1 h2 fun i x hx=>ih i x hx (dE (by simpa only[ar]using h) i x hx)
 |tu h1 _ ih=>exact .tu h1 fun i x hx=>ih i x hx (dE (by simpa only[ar]using h) i x hx)
 |fu hx=>exact .fu (hx.own gK)
 |so o ho hg hu hk =>
  simp only[ar,decide_eq_true_eq]at h
  obtain⟨o',h1,h2,h3⟩:=hobj _ o h ho
  refine .so o' h1 (Nat.le_trans hg h2) hu fun he=>?_
  have e:o'.g=o.g:=by omega
  have:=hk (by omega)
  unfold yD at this ⊢
  rw[(h3 e).1,(h3 e).2]
  exact this
 |rf o ho hg hu hk =>
  simp only[ar,decide_eq_true_eq]at h
  obtain⟨o',h1,h2,h3⟩:=hobj _ o h ho
  refine .rf o' h1 (Nat.le_trans hg h2) hu fun he=>?_
  have e:o'.g=o.g:=by omega
  rw[(h3 e).1,(h3 e).2]
  exact hk (by omega)
 |pp o ho hg hk =>
  simp only[ar,decide_eq_true_eq]at h
  obtain⟨o',h1,h2,h3⟩:=hobj _ o h ho
  refine .pp o' h1 (Nat.le_trans hg h2) fun he=>?_
  have e:o'.g=o.g:=by omega
  rw[(h3 e).1,(h3 e).2]
  exact hk (by omega)
 |mp o ho hg hu hk =>
  simp only[ar,decide_eq_true_eq]at h
  obtain⟨o',h1,h2,h3⟩:=hobj _ o h ho
  refine .mp o' h1 (Nat.le_trans hg h2) hu fun he=>?_
  have e:o'.g=o.g:=by omega
  rw[(h3 e).2]
  exact hk (by omega)
 |bx h1 h2 h3 hu _ ih=>exact .bx h1 h2 (fun h'=>h3 (gK _ h')) hu (ih (by simpa only[ar]using h))
 |cap h1 _ ih=>exact .cap h1 (ih (by simpa only[ar]using h))
 |cl h1 _ h3 _ yj gz =>
  simp only[ar,VE]at h
  exact .cl h1 (fun i x hx=>yj i x hx (dE h.1 i x hx)) h3 (fun i x hx=>gz i x hx (dE h.2 i x hx))
 |un=>exact .un
 |any=>exact .any
def pd (σ:Gh) (h n:Nat):Gh:=⟨fun k=>if k=h then σ n else if n≤k then none else σ k,σ.base⟩
theorem xr {σ0 σ1:Gh}{s:List Obj}{w0 w1:World}{o ob:Obj}{h:Nat} (OP:Inv σ0 s w0) (hE:bc σ0 s w0 σ1 (s++[o]) w1) (hI:Inv σ1 (s++[o]) w1) (hh:s[h]?=some ob) (OJ:o.live=true)
  (hd:∀(i j:Nat) (x:V),(o.aL[i]?.bind (·[j]?))=some x→ar 0 x=true∨ar s.length x=true) :
  bc σ0 s w0 (pd σ1 h s.length) (s.set h ⟨ob.g+1,true,o.sz,o.aL⟩) w1∧Inv (pd σ1 h s.length) (s.set h ⟨ob.g+1,true,o.sz,o.aL⟩) w1 ∧
   ∀lo n u,aJ σ1 (s++[o]) w1 (.so s.length o.g lo n) u→aJ (pd σ1 h s.length) (s.set h ⟨ob.g+1,true,o.sz,o.aL⟩) w1 (.so h (ob.g+1) lo n) u:=by
 have aT:=fT hh
 have vr:(s.set h ⟨ob.g+1,true,o.sz,o.aL⟩)[h]?=some ⟨ob.g+1,true,o.sz,o.aL⟩:=by simp [aT]
 have kD:∀k,k≠h→(s.set h (⟨ob.g+1,true,o.sz,o.aL⟩:Obj))[k]?=s[k]?:=fun k hk=>by rw[Wg (fun e=>hk e.symm)]
 have rF:(s++[o])[s.length]?=some o:=by simp
 have hold:∀k ok,s[k]?=some ok→(s++[o])[k]?=some ok:=fun k ok hk=>by rw[VH (fT hk)];exact hk
 have gh:pd σ1 h s.length h=σ1 s.length:=if_pos rfl
 have go:∀k ok,k≠h→s[k]?=some ok→pd σ1 h s.length k=σ1 k:=fun k ok hk hs=>by
  show (if k=h then _ else if s.length≤k then _ else _)=_
  rw[if_neg hk,if_neg (by have:=fT hs;omega)]
 have gK:∀b,Own (pd σ1 h s.length) (s.set h ⟨ob.g+1,true,o.sz,o.aL⟩) b→Own σ1 (s++[o]) b:=by
  rintro b (hb|⟨k,ok,base,h1,h2,h3⟩)
  ·exact .inl hb
  ·by_cases hk:k=h
   ·subst hk
    rw[gh]at h3
    exact .inr ⟨s.length,o,base,rF,OJ,h3⟩
   ·rw[kD k hk]at h1
    rw[go k ok hk h1]at h3
    exact .inr ⟨k,ok,base,hold k ok h1,h2,h3⟩
 have hobj:∀id o1,id<s.length→(s++[o])[id]?=some o1→∃o',(s.set h ⟨ob.g+1,true,o.sz,o.aL⟩)[id]?=some o'∧o1.g≤o'.g∧(o'.g=o1.g→o'.sz=o1.sz∧pd σ1 h s.length id=σ1 id):=by
  intro id o1 dB h1
  rw[VH dB]at h1
  by_cases hk:id=h
  ·subst hk
   rw[hh]at h1;cases h1
   exact⟨_,vr,Nat.le_succ _,fun he=>by simp at he⟩
  ·exact⟨o1,by rw[kD id hk];exact h1,VA _,fun _=>⟨rfl,go id o1 hk h1⟩⟩
 have IG:bc σ0 s w0 (pd σ1 h s.length) (s.set h ⟨ob.g+1,true,o.sz,o.aL⟩) w1:=by
  refine⟨hE.os,hE.tape,hE.output,hE.size,hE.cc,hE.shape,hE.pF,fun b hb=>hE.own b (gK b hb),fun id o1 h1=>?_,hE.base,hE.gn⟩
  obtain⟨o2,k1,k2,k3⟩:=hE.aF id o1 h1
  have dB:=fT h1
  obtain⟨o3,j1,j2,j3⟩:=hobj id o2 dB k1
  exact⟨o3,j1,Nat.le_trans k2 j2,fun he=>⟨(j3 (by omega)).1.trans (k3 (by omega)).1,(j3 (by omega)).2.trans (k3 (by omega)).2⟩⟩
 have hrefs:∀(id:Nat) (o1:Obj),s[id]?=some o1→∀(i j:Nat) (x:V),(o1.aL[i]?.bind (·[j]?))=some x→ar s.length x=true:=by
  intro id o1 h1 i j x hx
  rcases OP.content id o1 h1 with (⟨_,he⟩|⟨b,es,c,_,_,he⟩)|⟨b,base,arr,E,_,_,_,_,h5⟩
  ·rw[he]at hx;simp at hx
  ·rw[he]at hx
   unfold iP at hx
   rw[VB]at hx
   cases AA:es.toList[i]? with
   |none=>rw[AA]at hx;cases hx
   |some y =>
    rw[AA]at hx
    simp only[Wc,Wd]at hx
    match j with
    |0=>simp at hx;subst hx;rfl
    |1=>simp at hx;subst hx;rfl
    |j+2=>simp at hx
  ·obtain⟨u,_,_,h6⟩:=h5 i j x hx
   exact h6.Ob
 refine⟨IG,⟨?_,?_,hI.low,?_⟩,?_⟩
 ·intro id o1 h1
  by_cases hk:id=h
  ·subst hk
   rw[vr]at h1;cases h1
   rw[gh]
   rcases hI.content _ _ rF with hb|⟨b,base,arr,E,k1,k2,k3,k4,k5⟩
   ·exact .inl (hb.congr rfl)
   ·refine .inr ⟨b,base,arr,E,k1,k2,k3,k4,fun i j x hx=>?_⟩
    obtain⟨u,j1,j2,j3⟩:=k5 i j x hx
    rcases hd i j x hx with M5|M5
    ·exact⟨u,j1,j2,j3.move M5 gK⟩
    ·exact⟨u,j1,j2,aJ.Jf gK hobj j3 M5⟩
  ·rw[kD id hk]at h1
   rw[go id o1 hk h1]
   rcases hI.content _ _ (hold id o1 h1) with hb|⟨b,base,arr,E,k1,k2,k3,k4,k5⟩
   ·exact .inl hb
   ·refine .inr ⟨b,base,arr,E,k1,k2,k3,k4,fun i j x hx=>?_⟩
    obtain⟨u,j1,j2,j3⟩:=k5 i j x hx
    exact⟨u,j1,j2,aJ.Jf gK hobj j3 (hrefs id o1 h1 i j x hx)⟩
 ·intro k k' o1 o2 b base cj h1 h2 h3 h4 h5
  by_cases hk:k=h <;> by_cases rb:k'=h
  ·rw[hk,rb]
  ·subst hk
   rw[gh]at h4
   rw[kD k' rb]at h2
   rw[go k' o2 rb h2]at h5
   have:=hI.inj _ _ _ _ _ _ _ rF (hold k' o2 h2) OJ h4 h5
   have:=fT h2
   omega
  ·subst rb
   rw[gh]at h5
   rw[kD k hk]at h1
   rw[go k o1 hk h1]at h4
   have:=hI.inj _ _ _ _ _ _ _ (hold k o1 h1) rF h3 h4 h5
   have:=fT h1
   omega
  ·rw[kD k hk]at h1
   rw[kD k' rb]at h2
   rw[go k o1 hk h1]at h4
   rw[go k' o2 rb h2]at h5
   exact hI.inj _ _ _ _ _ _ _ (hold k o1 h1) (hold k' o2 h2) h3 h4 h5
 ·intro k o1 b base h1 h2
  by_cases hk:k=h
  ·subst hk
   rw[gh]at h2
   exact hI.apart _ _ _ _ rF h2
  ·rw[kD k hk]at h1
   rw[go k o1 hk h1]at h2
   exact hI.apart _ _ _ _ (hold k o1 h1) h2
 ·intro lo n u hu
  cases hu with|so o1 h1 h2 h3 h4=>?_
  rw[rF]at h1;cases h1
  refine .so _ vr (VA _) h3 fun _=>?_
  have:=h4 rfl
  unfold yD at this ⊢
  rw[gh]
  exact this
theorem qq {σ0 σ1:Gh}{s:List Obj}{w0 w1:World}{o ob:Obj}{h:Nat} (OP:Inv σ0 s w0) (hE:bc σ0 s w0 σ1 (s++[o]) w1) (hI:Inv σ1 (s++[o]) w1) (hh:s[h]?=some ob) (OJ:o.live=true)
  (hd:∀(i j:Nat) (x:V),(o.aL[i]?.bind (·[j]?))=some x→ar 0 x=true) :
  bc σ0 s w0 (pd σ1 h s.length) (s.set h ⟨ob.g+1,true,o.sz,o.aL⟩) w1∧Inv (pd σ1 h s.length) (s.set h ⟨ob.g+1,true,o.sz,o.aL⟩) w1 ∧
   ∀lo n u,aJ σ1 (s++[o]) w1 (.so s.length o.g lo n) u→aJ (pd σ1 h s.length) (s.set h ⟨ob.g+1,true,o.sz,o.aL⟩) w1 (.so h (ob.g+1) lo n) u:=xr OP hE hI hh OJ fun i j x hx=>.inl (hd i j x hx)
theorem Cm {P:Program}{t ty e:TypeId}{i:IP}{id g lo n cl ch:Nat}{xv:V}{ua ux:Value}{σ:Gh}{s:List Obj}{w:World}{o:Obj}{ns:List (List V)} (hI:Inv σ s w) (ha:aJ σ s w (.so id g lo n) ua) (hc:Ku cl ch ua) (hx:aJ σ s w xv ux) (tJ:gG s xv=some ns)
  (hti:iE P t=some (e,i)) (ho:s[id]?=some o) (hg:o.g=g) (Cw:o.sz=i.sz) (hz:∀e∈ns,e.length=i.sz) (dv:0<i.sz) (N3:0<ns.length) (hlo:lo+n≤o.aL.length) (pC:o.live=true) (hr:n+ns.length≤cl) :
  ∃r σ' w',(Builtin.append_ #[t,t] ty #[ua,ux]).run P w=.ok r w'∧bc σ s w σ' (s.set id ⟨g,true,i.sz,o.aL.take (lo+n)++ns++o.aL.drop (lo+n+ns.length)⟩) w' ∧
   Inv σ' (s.set id ⟨g,true,i.sz,o.aL.take (lo+n)++ns++o.aL.drop (lo+n+ns.length)⟩) w'∧aJ σ' (s.set id ⟨g,true,i.sz,o.aL.take (lo+n)++ns++o.aL.drop (lo+n+ns.length)⟩) w' (.so id g lo (n+ns.length)) r:=by
 obtain⟨hu,hi⟩:=jd hti
 obtain⟨ti,d,z,k1,k2,k3,k4,k5,k6,k7,k8,k9⟩:=fW hi
 have Es:z.cells.size=i.sz:=by rw[← Ww,k6,k7]
 obtain⟨ax,rG,rfl,x0,NZ,news,n1,n2,n3,n4⟩:=il hI hx tJ hz
 have rp:Src P ti.size t (.slice ax ns.length rG) ns.length news w:=by
  rw[k4]
  cases ax with
  |none =>
   have:ns=[]:=x0 rfl
   subst this
   simp at N3
  |some ad=>exact Src.ofSlice w hu ad ns.length rG news n1 (n3 ad rfl) n2
 obtain⟨KO,M1⟩:=lS hI
 have kV:gG s (.so id g lo n)=some ((o.aL.drop lo).take n):=by simp [gG,ho,hg,hlo]
 have kJ:((o.aL.drop lo).take n).length=n:=by simp;omega
 have Pl:∀e∈o.aL,e.length=i.sz:=by
  intro e vj
  rcases hI.content _ o ho with h0|⟨b,base,arr,E,h1,h2,h3,h4,h5⟩
  ·cases ha with|so o' jj xg Jc hk=>?_
   rw[ho]at jj;cases jj
   rcases hk hg with ⟨eB,_⟩|⟨b,bs,cp,E,arr,ga,hh,_⟩
   ·rw[h0.Bg eB]at vj;cases vj
   ·exact(h0.yW ga ⟨arr,E,hh⟩).elim
  ·rw[← Cw];exact h3 e vj
 have LU:∀e∈(o.aL.drop lo).take n,e.length=i.sz:=fun e he=>Pl e (List.mem_of_mem_drop (Wo he))
 obtain⟨base,cap,yf,a1,a2,jK,o1,o2,o3,o4⟩:=il hI ha kV LU
 rw[kJ]at yf a2
 cases ha with|so o' jj xg Jc hk=>?_
 rw[ho]at jj;cases jj
 have rb:=hk hg
 have dR:n+ns.length≤cap:=by have:=(hc _ _ _ yf).1;omega
 rcases rb with ⟨eB,⟨aa,sE⟩,rfl,rfl⟩|⟨b,bs,cp,E,arr,ga,hh,sE,sa,hfit⟩
 ·rw[yf]at sE
  simp only[Value.slice.injEq]at sE
  omega
 rw[yf]at sE
 simp only[Value.slice.injEq]at sE
 obtain⟨rfl,_,rfl⟩:=sE
 subst yf
 generalize i.sz=Z at *
 subst Cw
 obtain⟨bb,Vk,UF,E2,q1,q2,q3,q4,q5⟩:∃b base arr E,σ id=some (b,base)∧w.heap[b]?=some (.cells arr E (0,0))∧(∀e∈o.aL,e.length=o.sz)∧base+o.aL.length*o.sz≤arr.size ∧
   ∀i j x,(o.aL[i]?.bind (·[j]?))=some x→∃u,arr[base+i*o.sz+j]?=some u∧u.oneCell'=true∧aJ σ s w x u:=by
  rcases hI.content _ o ho with h0|h0
  ·exact(h0.yW ga ⟨arr,E,hh⟩).elim
  ·exact h0
 rw[ga]at q1
 simp only[Option.some.injEq,Prod.mk.injEq]at q1
 obtain⟨rfl,rfl⟩:=q1
 rw[hh]at q2
 simp only[Option.some.injEq,Go.Obj.cells.injEq]at q2
 obtain⟨rfl,rfl,_⟩:=q2
 generalize hS:bs+(lo+n)*o.sz=S at *
 have Ro:bs+lo*o.sz+n*o.sz=S:=by rw[← hS,Wa];omega
 have hq:S+news.length≤arr.size:=by
  rw[n1,← hS]
  have e1:(lo+cap)*o.sz=lo*o.sz+cap*o.sz:=Wa _ _ _
  have e2:=V0 o.sz dR
  rw[Wa]at e2
  rw[Wa]
  omega
 have aH:=run_storeCells_at P b S E news 0 arr w hh (by omega) n2
 simp only[Nat.add_zero]at aH
 generalize mJ:(arr.toList.take S++news++arr.toList.drop (S+news.length)).toArray=cH at aH
 have ia:cH.size=arr.size:=by rw[← mJ];simp;omega
 have S5:(arr.toList.take S).length=S:=by simp;omega
 have aT:∀p,p<S→cH[p]?=arr[p]?:=by
  intro p hp
  rw[← mJ,List.getElem?_toArray,VY,VH (by simp;omega),VW,if_pos hp,V4]
 have yh:∀q,q<news.length→cH[S+q]?=news[q]?:=by
  intro q oO
  rw[← mJ,List.getElem?_toArray,VY,VF (by omega),S5,VH (by omega)]
  congr 1
  omega
 have Rq:∀p,S+news.length≤p→cH[p]?=arr[p]?:=by
  intro p hp
  rw[← mJ,List.getElem?_toArray,VY,VF (by omega),S5,VF (by omega),Wf,V4]
  congr 1
  omega
 have Tw:∀e∈o.aL.take (lo+n)++ns++o.aL.drop (lo+n+ns.length),e.length=o.sz:=by
  intro e he
  rcases List.mem_append.1 he with he|he
  ·rcases List.mem_append.1 he with he|he
   ·exact Pl e (Wo he)
   ·exact hz e he
  ·exact Pl e (List.mem_of_mem_drop he)
 have NL:bs+(o.aL.take (lo+n)++ns++o.aL.drop (lo+n+ns.length)).length*o.sz≤arr.size:=by
  have hl:(o.aL.take (lo+n)++ns++o.aL.drop (lo+n+ns.length)).length=max (lo+n+ns.length) o.aL.length:=by
   simp only[VN,V3,List.length_drop];omega
  rw[hl]
  rcases Nat.le_total (lo+n+ns.length) o.aL.length with h'|h'
  ·rw[Nat.max_eq_right h'];exact q4
  ·rw[Nat.max_eq_left h']
   have e3:(lo+n+ns.length)*o.sz≤(lo+cap)*o.sz:=V0 _ (by omega)
   omega
 have:=lp (p:=some (b,bs)) (o':=⟨g,true,o.sz,o.aL.take (lo+n)++ns++o.aL.drop (lo+n+ns.length)⟩) (w':=w.setRow b cH) hI ho pC rfl rfl rfl (by simp)
  (fun b1 _ gf=>setRow_other w b b1 cH (fun e=>gf bs (by rw[ga,e])))
  (fun b1 iI Nr E1 he O8=>by
   rw[ga]at he;cases he
   rw[hh]at O8;cases O8
   exact⟨cH,setRow_heap w b arr cH E (0,0) hh,ia⟩)
  (fun b1 iI he hm=>by
   rw[ga]at he;cases he
   exact(D4.notM ⟨arr,E,hh⟩ hm).elim)
  (by simp only;omega) (fun _=>⟨rfl,ga.symm⟩) (fun b1 iI he=>by cases he;exact .inl ⟨bs,ga⟩)
  (fun hE=>.inr ⟨b,bs,cH,E,rfl,setRow_heap w b arr cH E (0,0) hh,Tw,by rw[ia];exact NL,fun i' j y hy=>by
   simp only at hy ⊢
   obtain⟨el,A2,hj⟩:∃el,(o.aL.take (lo+n)++ns++o.aL.drop (lo+n+ns.length))[i']?=some el∧el[j]?=some y:=by
    cases oO:(o.aL.take (lo+n)++ns++o.aL.drop (lo+n+ns.length))[i']? with
    |none=>rw[oO]at hy;cases hy
    |some el=>rw[oO]at hy;exact⟨el,rfl,hy⟩
   have La:j<o.sz:=by
    have:=(List.getElem?_eq_some_iff.1 hj).1
    rwa [Tw el (Vy A2)]at this
   have PJ:(o.aL.take (lo+n)).length=lo+n:=by simp;omega
   by_cases c1:i'<lo+n
   ·rw[VY,VH (by omega),VW,if_pos c1]at A2
    obtain⟨u,u1,u2,u3⟩:=q5 i' j y (by rw[A2];exact hj)
    have xP:(i'+1)*o.sz≤(lo+n)*o.sz:=V0 _ (by omega)
    rw[Wa,Nat.one_mul]at xP
    exact⟨u,by rw[aT _ (by omega)];exact u1,u2,u3.bM hE⟩
   ·by_cases c2:i'<lo+n+ns.length
    ·rw[VY,VF (by omega),PJ,VH (by omega)]at A2
     obtain⟨c,d1,d2,d3⟩:=n4 (i' - (lo+n)) j y (by rw[A2];exact hj)
     have UH:=(List.getElem?_eq_some_iff.1 d1).1
     have Un:bs+i'*o.sz+j=S+((i' - (lo+n))*o.sz+j):=by
      rw[← hS,Wk bs,← Wk bs,Wk,Wk]
      have:i'*o.sz=(lo+n)*o.sz+(i' - (lo+n))*o.sz:=by rw[← Wa];congr 1;omega
      omega
     exact⟨c,by rw[Un,yh _ UH];exact d1,d2,d3.bM hE⟩
    ·rw[VF (by simp only[VN,PJ];omega),Wf]at A2
     have EI:o.aL[i']?=some el:=by
      rw[← A2];congr 1;simp only[VN,PJ];omega
     obtain⟨u,u1,u2,u3⟩:=q5 i' j y (by rw[EI];exact hj)
     have xP:(lo+n+ns.length)*o.sz≤i'*o.sz:=V0 _ (by omega)
     rw[Wa]at xP
     exact⟨u,by rw[Rq _ (by rw[n1];omega)];exact u1,u2,u3.bM hE⟩⟩)
 have Uy:lO σ id (some (b,bs)) id=some (b,bs):=b9 _ _ _
 refine⟨.slice (some ⟨b,bs+lo*o.sz,none⟩) (n+ns.length) cap,_,w.setRow b cH,?_,this.1,this.2,?_⟩
 ·have kG:=rp.cells
  rw[k4]at kG
  rw[← Ro]at aH
  simp [Builtin.append_,run_underlying hu,sizeOf,typeInfo,k1,Builtin.lenOf,dR,kG,k4,Addr.add_lit,aH]
 ·exact .so ⟨g,true,o.sz,o.aL.take (lo+n)++ns++o.aL.drop (lo+n+ns.length)⟩ (by simp [(List.getElem?_eq_some_iff.1 ho).1]) (VA _) rfl
   (fun _=>.inr ⟨b,bs,cap,E,cH,Uy,setRow_heap w b arr cH E (0,0) hh,rfl,dR,by rw[ia];exact hfit⟩)
theorem BW {P:Program}{t ty e:TypeId}{i:IP}{id g lo n cl ch:Nat}{xv:V}{ua ux:Value}{σ:Gh}{s:List Obj}{w:World}{o:Obj}{ns:List (List V)} (hI:Inv σ s w) (ha:aJ σ s w (.so id g lo n) ua) (hc:Ku cl ch ua) (hx:aJ σ s w xv ux) (tJ:gG s xv=some ns)
  (hti:iE P t=some (e,i)) (ho:s[id]?=some o) (hg:o.g=g) (Cw:o.sz=i.sz) (hz:∀e∈ns,e.length=i.sz) (dv:0<i.sz) (N3:0<ns.length) (hlo:lo+n≤o.aL.length) (QI:0<i.xN) (hb:(n+ns.length)*i.xN≤140737488355328) (hr:ch<n+ns.length) :
  ∃r σ' w',(Builtin.append_ #[t,t] ty #[ua,ux]).run P w=.ok r w'∧bc σ s w σ' (s++[⟨0,true,i.sz,(o.aL.drop lo).take n++ns⟩]) w' ∧
   Inv σ' (s++[⟨0,true,i.sz,(o.aL.drop lo).take n++ns⟩]) w'∧aJ σ' (s++[⟨0,true,i.sz,(o.aL.drop lo).take n++ns⟩]) w' (.so s.length 0 0 (n+ns.length)) r:=by
 obtain⟨hu,hi⟩:=jd hti
 obtain⟨ti,d,z,k1,k2,k3,k4,k5,k6,k7,k8,k9⟩:=fW hi
 have Es:z.cells.size=i.sz:=by rw[← Ww,k6,k7]
 obtain⟨ax,rG,rfl,x0,NZ,news,n1,n2,n3,n4⟩:=il hI hx tJ hz
 have rp:Src P ti.size t (.slice ax ns.length rG) ns.length news w:=by
  rw[k4]
  cases ax with
  |none =>
   have:ns=[]:=x0 rfl
   subst this
   simp at N3
  |some ad=>exact Src.ofSlice w hu ad ns.length rG news n1 (n3 ad rfl) n2
 obtain⟨KO,M1⟩:=lS hI
 have kV:gG s (.so id g lo n)=some ((o.aL.drop lo).take n):=by simp [gG,ho,hg,hlo]
 have kJ:((o.aL.drop lo).take n).length=n:=by simp;omega
 have Pl:∀e∈o.aL,e.length=i.sz:=by
  intro e vj
  rcases hI.content _ o ho with h0|⟨b,base,arr,E,h1,h2,h3,h4,h5⟩
  ·cases ha with|so o' jj xg Jc hk=>?_
   rw[ho]at jj;cases jj
   rcases hk hg with ⟨eB,_⟩|⟨b,bs,cp,E,arr,ga,hh,_⟩
   ·rw[h0.Bg eB]at vj;cases vj
   ·exact(h0.yW ga ⟨arr,E,hh⟩).elim
  ·rw[← Cw];exact h3 e vj
 have LU:∀e∈(o.aL.drop lo).take n,e.length=i.sz:=fun e he=>Pl e (List.mem_of_mem_drop (Wo he))
 obtain⟨base,cap,yf,a1,a2,jK,o1,o2,o3,o4⟩:=il hI ha kV LU
 rw[kJ]at yf a2
 cases ha with|so o' jj xg Jc hk=>?_
 rw[ho]at jj;cases jj
 have rb:=hk hg
 have gD:cap<n+ns.length:=by have:=(hc _ _ _ yf).2;omega
 have hold:(Builtin.firstCells ti.size n (.slice base n cap)).run P w.drew=.ok jK.toArray w.drew:=by
  rw[k4]
  cases base with
  |none =>
   have he:(o.aL.drop lo).take n=[]:=a1 rfl
   rw[he]at o1 kJ
   have ma:n=0:=by simpa using kJ.symm
   have hn:jK=[]:=VD (by simpa using o1)
   subst ma hn
   exact run_firstCells_none w.drew i.sz 0 0 cap
  |some ad=>exact run_firstCells_some w.drew i.sz n ad n cap jK (by rw[o1,kJ]) (by simpa using o3 ad rfl)
 have hle:n+ns.length≤(n+ns.length)*i.xN:=Nat.le_mul_of_pos_right _ QI
 have cY:=run_append_grow_src (P:=P) w t t ty e ti z hu k1 k3 base n cap jK hold (.slice ax ns.length rG) ns.length news rp gD (by omega) (growslice_fits gD (by rw[k5];exact hb))
 have iR:=grownCap_ge w (n+ns.length) cap e
 subst yf
 generalize grownCap w (n+ns.length) cap e=lJ at *
 have gH:((jK++news).toArray++Builtin.zeroCells z.cells (lJ - (n+ns.length))).size=lJ*i.sz:=by
  simp only[Array.size_append,List.size_toArray,size_zeroCells,VN,o1,n1,Es,kJ]
  rw[← Wa,← Wa]
  congr 1
  omega
 have mV:∀(i' j:Nat) (y:V),(((o.aL.drop lo).take n++ns)[i']?.bind (·[j]?))=some y→∃c,((jK++news).toArray++Builtin.zeroCells z.cells (lJ - (n+ns.length)))[i'*i.sz+j]?=some c∧c.oneCell'=true∧aJ σ s w y c:=by
  intro i' j y hy
  obtain⟨c,c1,c2,c3⟩:=pG o1 o4 n4 i' j y hy
  exact⟨c,zO c1,c2,c3⟩
 generalize (jK++news).toArray++Builtin.zeroCells z.cells (lJ - (n+ns.length))=arr at *
 have:=ou (aL:=(o.aL.drop lo).take n++ns) (sz:=i.sz) (arr:=arr) M1 e (fun e he=>(List.mem_append.1 he).elim (LU e) (hz e)) (by rw[gH,VN,kJ];exact V0 _ iR)
  (fun i' j y hy=>let ⟨c,c1,c2,c3⟩:=mV i' j y hy;⟨c,c1,c2,c3.bM KO⟩)
 refine⟨_,_,_,cY,KO.trans this.1,this.2,?_⟩
 exact .so ⟨0,true,i.sz,(o.aL.drop lo).take n++ns⟩ (by simp) (VA _) rfl (fun _=>.inr ⟨w.heap.size,0,lJ,e,arr,b9 _ _ _,heap_alloc_new w.drew _,by simp,iR,by simp [gH]⟩)
def jL (o:Oper) (e:Env):Option (Option (FuncId×List V)) :=
 match o.op with
 |.call c=>match c.callee with
  |.value (.func f)=>some (some (f,c.args.toList.map (ev e)))
  |.value x=>match yK (e 0) (ev e x) with
   |.cl (.func g) first ai=>some (some (g,first++c.args.toList.map (ev e)++ai))
   |_=>some none
  |.invoke ..=>some none
  |.builtin _=>none
 |_=>none
theorem w5 {P:Program}{o:Oper}{e:Env}{f:FuncId}{args:List V} (h:jL o e=some (some (f,args))) (s:List Obj) (K:V→List Obj→Prop):db P o e s K=az P f args s K:=by
 obtain⟨dst,op,ty,pos,after,guard⟩:=o
 cases op <;> try (simp [jL]at h;done)
 rename_i c
 obtain⟨callee,cargs,argTypes⟩:=c
 cases callee with
 |value x =>
  cases x with
  |func g=>simp only[jL,Option.some.injEq,Prod.mk.injEq]at h;obtain⟨rfl,rfl⟩:=h;rfl
  |tmp t =>
   simp only[jL]at h
   split at h
   ·rename_i g first ai cI
    simp only[Option.some.injEq,Prod.mk.injEq]at h;obtain⟨rfl,rfl⟩:=h
    simp only[db,fS,cI]
   ·cases h
  |const t =>
   simp only[jL]at h
   split at h
   ·rename_i g first ai cI
    simp only[Option.some.injEq,Prod.mk.injEq]at h;obtain⟨rfl,rfl⟩:=h
    simp only[db,fS,cI]
   ·cases h
  |global t =>
   simp only[jL]at h
   split at h
   ·rename_i g first ai cI
    simp only[Option.some.injEq,Prod.mk.injEq]at h;obtain⟨rfl,rfl⟩:=h
    simp only[db,fS,cI]
   ·cases h
 |invoke r m=>simp [jL]at h
 |builtin b=>simp [jL]at h
theorem rZ {o:Oper}{e:Env} (h:jL o e=none):EK o=false:=by
 obtain⟨dst,op,ty,pos,after,guard⟩:=o
 cases op <;> try rfl
 rename_i c
 obtain⟨callee,cargs,argTypes⟩:=c
 cases callee with
 |value x =>
  cases x with
  |func g=>simp [jL]at h
  |tmp t=>simp only[jL]at h;split at h <;> cases h
  |const t=>simp only[jL]at h;split at h <;> cases h
  |global t=>simp only[jL]at h;split at h <;> cases h
 |invoke r m=>rfl
 |builtin b=>rfl
def MO (P:Program) (f:FuncId) (args:List V) (s:List Obj) (K:V→List Obj→Prop):Prop:=∃v,(∀s',az P f args s' fun v' D5=>v'=v∧D5=s')∧K v s
def Mx (P:Program) (f:FuncId) (args:List V) (s:List Obj) (K:V→List Obj→Prop):Prop:=∃v s1,(az P f args s fun v' D5=>v'=v∧D5=s1)∧K v s1
def C4 (P:Program) (rd wr:List Nat) (f:FuncId) (args:List V) (s:List Obj) (K:V→List Obj→Prop):Prop :=
 ∃v os,os.length=wr.length∧(∀s',s'.length=s.length→(∀id∈rd,s'[id]?=s[id]?)→az P f args s' fun v' D5=>v'=v∧D5=bm s' wr os)∧K v (bm s wr os)
def AT:V→Bool
 |.d (.sl _)=>true
 |.fu _=>true
 |_=>false
theorem Em {x:V} (h:AT x=true) (s s':List Obj):gG s' x=gG s x:=by
 unfold AT at h
 split at h
 ·rfl
 ·rfl
 ·cases h
def O7 (P:Program) (t t':TypeId) (aL:List (List D)) (x:V) (ob:Obj) (h:Nat) (s:List Obj) (K:V→List Obj→Prop):Prop :=
 match x,iE P t with
 |.fu ns,some (_,i)=>(t=t'∧0<ns.length∧0<i.sz∧0<i.xN∧(aL.length+ns.length)*i.xN≤140737488355328∧(∀e∈aL,e.length=i.sz)∧∀e∈ns,e.length=i.sz) ∧
   K (.so h (ob.g+1) 0 (aL.length+ns.length)) (s.set h ⟨ob.g+1,true,i.sz,(aL++ns).map (·.map .d)⟩)
 |.d (.sl ns),some (_,i)=>(aL=[]∧t=t'∧0<i.sz∧0<i.xN∧ns.length*i.xN≤140737488355328∧∀e∈ns,e.length=i.sz) ∧
   K (.so h (ob.g+1) 0 ns.length) (s.set h ⟨ob.g+1,true,i.sz,ns.map (·.map .d)⟩)
 |_,_=>False
def Qt (P:Program) (t:TypeId) (l c:V) (ob:Obj) (h:Nat) (s:List Obj) (K:V→List Obj→Prop):Prop :=
 match l,c,iE P t with
 |.d (.sc (.int _ n)),.d (.sc (.int _ m)),some (_,i)=>(0≤n∧n≤m∧i.xN*m≤140737488355328∧m≤9223372036854775807∧0<i.sz) ∧
   K (.so h (ob.g+1) 0 n.toNat) (s.set h ⟨ob.g+1,true,i.sz,List.replicate n.toNat (i.zero.map cv)⟩)
 |_,_,_=>False
def O6 (P:Program) (t:TypeId) (len:Nat) (parts:List (Nat×V)) (ob:Obj) (h:Nat) (s:List Obj) (K:V→List Obj→Prop):Prop :=
 match iE P t with
 |none=>False
 |some (_,i)=>(len*i.sz≤16777216∧0<i.sz)∧match pz i.sz (List.replicate len (i.zero.map cv)) parts with
  |none=>False
  |some aL=>(mY aL=none∧∀e∈aL,∀x∈e,ar s.length x=true)∧K (.so h (ob.g+1) 0 len) (s.set h ⟨ob.g+1,true,i.sz,aL⟩)
theorem Mb (v:Value):ar 0 (cv v)=true:=by
 unfold cv
 split <;> rfl
def Jl (P:Program) (o:Oper) (e:Env) (s:List Obj) (h:Nat) (K:V→List Obj→Prop):Prop :=
 match s[h]? with
 |none=>False
 |some ob=>match o.op with
  |.alloc t=>ob.live=true∧match bS P t with
   |some i=>K (.rf h (ob.g+1) 0 0) (s.set h ⟨ob.g+1,true,i.sz,[i.zero.map cv]⟩)
   |none=>False
  |.box _ x=>ob.live=true∧match eA (ev e x) with
   |some cs=>K (.rf h (ob.g+1) 0 0) (s.set h ⟨ob.g+1,true,cs.length,[cs]⟩)
   |none=>False
  |.store t a x=>match ev e a with
   |.rf id _ _ _=>id=h∧gm P t s (ev e a) (ev e x) fun s'=>K .un s'
   |.pp id _ _ _ _ _=>id=h∧gm P t s (ev e a) (ev e x) fun s'=>K .un s'
   |_=>False
  |.makeSlice t l c=>Qt P t (ev e l) (ev e c) ob h s K
  |.buildSlice t n ps=>O6 P t n (ps.toList.map fun p=>(p.1,ev e p.2)) ob h s K
  |.call c=>match c.callee,c.args.toList,c.argTypes.toList with
   |.builtin .append,[a,x],[t,t']=>match ev e a with
    |.so id _ _ _=>(id=h∧AT (ev e x)=true)∧t=t'∧dD P t (ev e a) (ev e x) s K
    |.fu aL=>O7 P t t' aL (ev e x) ob h s K
    |_=>False
   |_,_,_=>False
  |_=>False
theorem KF {σ:Gh}{s:List Obj}{w:World} (hI:Inv σ s w) {id:Nat}{o:Obj} (ho:s[id]?=some o) (pC:o.live=true) {sz:Nat}{aL:List (List V)}{arr:Array Value} (E:TypeId) (hl:∀e∈aL,e.length=sz) (hs:aL.length*sz≤arr.size)
  (hc:∀(i j:Nat) (x:V),(aL[i]?.bind (·[j]?))=some x→∃u,arr[i*sz+j]?=some u∧u.oneCell'=true∧aJ σ s w x u) :
  bc σ s w (lO σ id (some (w.heap.size,0))) (s.set id ⟨o.g+1,true,sz,aL⟩) (w.alloc (.cells arr E)) ∧
  Inv (lO σ id (some (w.heap.size,0))) (s.set id ⟨o.g+1,true,sz,aL⟩) (w.alloc (.cells arr E)):=by
 refine lp (p:=some (w.heap.size,0)) hI ho pC rfl rfl rfl (by simp) (fun b hb _=>Go.RowKit.Below.heap_alloc w _ b hb)
  (fun b base cH E' nq hh=>⟨cH,by rw[Go.RowKit.Below.heap_alloc w _ b (fw hh)];exact hh,rfl⟩)
  (fun b base nq hm=>let ⟨es,c,hh⟩:=hm;⟨es,c,by rw[Go.RowKit.Below.heap_alloc w _ b (fw hh)];exact hh⟩) (Nat.le_succ _) (fun h=>by simp at h) (fun b base h=>by cases h;exact .inr (VA _))
  (fun hE=>.inr ⟨w.heap.size,0,arr,E,rfl,heap_alloc_new w _,hl,by simpa using hs,fun i j x hx=>?_⟩)
 obtain⟨u,h1,h2,h3⟩:=hc i j x hx
 exact⟨u,by simpa using h1,h2,h3.bM hE⟩
theorem MH {σ:Gh}{s:List Obj}{w:World}{id:Nat} (dB:id<s.length) {o:Obj}{b base:Nat} (hC:D4 w b):aJ (lO σ id (some (b,base))) (s.set id o) w (.rf id o.g 0 0) (.pointer (some ⟨b,base,none⟩)) :=
 .rf o (by simp [dB]) (VA _) rfl (fun _=>⟨b,base,b9 _ _ _,hC,by simp⟩)
theorem KN {P:Program}{full:List Oper}{o:Oper}{e:Env}{s:List Obj}{h:Nat}{K:V→List Obj→Prop} (ha:Jl P o e s h K) :
  ∃v o',K v (s.set h o')∧∀s',s'.length=s.length→s'[h]?=s[h]?→FE P full o e s' v (s'.set h o'):=by
 obtain⟨dst,op,ty,pos,after,guard⟩:=o
 unfold Jl at ha
 cases Gg:s[h]? with
 |none=>rw[Gg]at ha;exact ha.elim
 |some ob =>
  rw[Gg]at ha
  simp only at ha
  cases op <;> simp only at ha <;> try exact ha.elim
  case alloc t =>
   obtain⟨hl,ha⟩:=ha
   split at ha
   case h_2=>exact ha.elim
   rename_i i hi
   refine⟨_,_,ha,fun s' hlen nq σ w N a hI hR=>?_⟩
   obtain⟨z,hz,hr,hs,Oa⟩:=tV hi σ s' w
   have:=KF hI nq hl (aL:=[i.zero.map cv]) (sz:=i.sz) (arr:=z.cells) t (by simp;rw[← Oa];simpa using hs) (by simp [hs]) (qY hr i.sz)
   refine eN (u:=.pointer (some ⟨w.heap.size,0,none⟩)) (w':=w.alloc (.cells z.cells t)) ?_ this.1 this.2 (MH (o:=⟨ob.g+1,true,i.sz,[i.zero.map cv]⟩) (List.getElem?_eq_some_iff.1 nq).1 ⟨_,_,heap_alloc_new w _⟩) ⟨rfl,rfl⟩
   simp [execOp,Instr.alloc,hz,newVar,newRow]
  case box t x =>
   obtain⟨hl,ha⟩:=ha
   split at ha
   case h_2=>exact ha.elim
   rename_i cs mW
   refine⟨_,_,ha,fun s' hlen nq σ w N a hI hR=>?_⟩
   have hm:ev (lN full ⟨dst,.box t x,ty,pos,after,guard⟩ e) x=ev e x:=by
    cases x with
    |tmp t'=>simp [ev,lN,Oper.looksAt,Op.operands]
    |_=>rfl
   have hx:=hR.ev x
   rw[hm]at hx
   have hr:sk σ s' w cs (a.eval x).cells:=ko hx mW
   have:=KF hI nq hl (aL:=[cs]) (sz:=cs.length) (arr:=(a.eval x).cells) t (by simp) (by simp [hr.1]) (qY hr _)
   refine eN (u:=.pointer (some ⟨w.heap.size,0,none⟩)) (w':=w.alloc (.cells (a.eval x).cells t)) ?_ this.1 this.2 (MH (o:=⟨ob.g+1,true,cs.length,[cs]⟩) (List.getElem?_eq_some_iff.1 nq).1 ⟨_,_,heap_alloc_new w _⟩) ⟨rfl,rfl⟩
   simp [execOp,Instr.box,newVar,newRow]
  case store t x y =>
   split at ha
   case h_3=>exact ha.elim
   ·rename_i id g k off hx
    obtain⟨rfl,ha⟩:=ha
    unfold gm at ha
    cases ht:bS P t with
    |none=>rw[ht]at ha;exact ha.elim
    |some i =>
     rw[ht]at ha
     simp only[hx,Gg]at ha
     obtain⟨h1,h2,ha⟩:=ha
     split at ha
     ·exact ha.elim
     ·rename_i cs mW
      split at ha
      ·exact ha.elim
      ·rename_i ns tJ
       obtain⟨h3,h4,ha⟩:=ha
       refine⟨_,_,ha,fun s' hlen nq=>im ?_⟩
       unfold jy db
       simp only[gm,ht,hx,nq,Gg,mW,tJ]
       exact⟨h1,h2,h3,h4,trivial,trivial⟩
   ·rename_i id g k off b a' hx
    obtain⟨rfl,ha⟩:=ha
    unfold gm at ha
    cases ht:bS P t with
    |none=>rw[ht]at ha;exact ha.elim
    |some i =>
     rw[ht]at ha
     simp only[hx,Gg]at ha
     obtain⟨h1,h2,ha⟩:=ha
     split at ha
     ·exact ha.elim
     ·rename_i cs mW
      split at ha
      ·exact ha.elim
      ·rename_i ns tJ
       obtain⟨h3,h4,ha⟩:=ha
       refine⟨_,_,ha,fun s' hlen nq=>im ?_⟩
       unfold jy db
       simp only[gm,ht,hx,nq,Gg,mW,tJ]
       exact⟨h1,h2,h3,h4,trivial,trivial⟩
  case buildSlice t n ps =>
   unfold O6 at ha
   cases aH:iE P t with
   |none=>rw[aH]at ha;exact ha.elim
   |some ei =>
    obtain⟨ee,i⟩:=ei
    rw[aH]at ha
    simp only at ha
    obtain⟨h1,ha⟩:=ha
    cases Nd:pz i.sz (List.replicate n (i.zero.map cv)) (ps.toList.map fun p=>(p.1,ev e p.2)) with
    |none=>rw[Nd]at ha;exact ha.elim
    |some aL =>
     rw[Nd]at ha
     simp only at ha
     obtain⟨⟨CY,Mn⟩,ha⟩:=ha
     refine⟨_,_,ha,fun s' hlen nq σ w N a0 hI hR=>?_⟩
     have AB:jy P ⟨dst,.buildSlice t n ps,ty,pos,after,guard⟩ e s' (.so s'.length 0 0 n) (s'++[⟨0,true,i.sz,aL⟩]):=by
      unfold jy db
      simp only
      unfold eC
      rw[aH]
      simp only[Nd,CY]
      exact⟨h1,trivial,trivial⟩
     refine Oper.wp_mono (fun a' w' ⟨u,v,σ',s1,LS,uD,jF,oN,OD,OA⟩=>?_) (im AB σ w N a0 hI hR)
     subst OD OA
     obtain⟨m1,m2,m3⟩:=xr hI uD jF nq rfl (fun i' j x' mb=>by
      right
      rw[hlen]
      cases hq:aL[i']? with
      |none=>rw[hq]at mb;cases mb
      |some c =>
       rw[hq]at mb
       exact Mn c (Vy hq) x' (Vy mb))
     exact⟨u,_,_,_,LS,m1,m2,m3 _ _ _ oN,rfl,rfl⟩
  case makeSlice t l c =>
   unfold Qt at ha
   split at ha
   case h_2=>exact ha.elim
   rename_i k1 n k2 m ee i hl hc aH
   obtain⟨h1,ha⟩:=ha
   refine⟨_,_,ha,fun s' hlen nq σ w N a0 hI hR=>?_⟩
   have AB:jy P ⟨dst,.makeSlice t l c,ty,pos,after,guard⟩ e s' (.so s'.length 0 0 n.toNat) (s'++[⟨0,true,i.sz,List.replicate n.toNat (i.zero.map cv)⟩]):=by
    unfold jy db
    simp only
    unfold fx
    rw[hl,hc,aH]
    exact⟨h1,rfl,rfl⟩
   refine Oper.wp_mono (fun a' w' ⟨u,v,σ',s1,LS,uD,jF,oN,OD,OA⟩=>?_) (im AB σ w N a0 hI hR)
   subst OD OA
   obtain⟨m1,m2,m3⟩:=qq hI uD jF nq rfl (fun i' j x' mb=>by
    cases hq:(List.replicate n.toNat (i.zero.map cv))[i']? with
    |none=>rw[hq]at mb;cases mb
    |some e' =>
     have he:=Wm (Vy hq)
     subst he
     rw[hq]at mb
     simp only[Wd,VB]at mb
     obtain⟨d,_,rfl⟩:=Option.map_eq_some_iff.1 mb
     exact Mb d)
   exact⟨u,_,_,_,LS,m1,m2,m3 _ _ _ oN,rfl,rfl⟩
  case call c =>
   split at ha
   case h_2=>exact ha.elim
   rename_i a x t t' yG wW EY
   split at ha
   case h_3=>exact ha.elim
   case h_2 =>
    rename_i aL hx
    obtain⟨callee,args,Bl⟩:=c
    simp only at yG wW EY
    subst yG
    unfold O7 at ha
    split at ha
    case h_3=>exact ha.elim
    case h_2 =>
     rename_i ns ee i hy aH
     obtain⟨⟨rfl,rfl,h2,h3,h4,h6⟩,ha⟩:=ha
     refine⟨_,_,ha,fun s' hlen nq σ w N a0 hI hR=>?_⟩
     have AB:jy P ⟨dst,.call ⟨.builtin .append,args,Bl⟩,ty,pos,after,guard⟩ e s' (.so s'.length 0 0 ns.length) (s'++[⟨0,true,i.sz,ns.map (·.map .d)⟩]):=by
      unfold jy db fS
      simp only[wW,EY,eq_self,if_true]
      unfold dD
      rw[hx,hy,aH]
      have A2:gG s' (.d (.sl ns))=some (ns.map (·.map .d)):=rfl
      rw[A2]
      refine⟨⟨fun e he=>?_,h2,h3⟩,?_⟩
      ·obtain⟨d,hd,rfl⟩:=List.mem_map.1 he
       simpa using h6 d hd
      ·simp only
       refine⟨⟨.inl trivial,by simpa using h4,by simp⟩,?_,?_⟩ <;> simp
     refine Oper.wp_mono (fun a' w' ⟨u,v,σ',s1,LS,uD,jF,oN,OD,OA⟩=>?_) (im AB σ w N a0 hI hR)
     subst OD OA
     obtain⟨m1,m2,m3⟩:=qq hI uD jF nq rfl (fun i' j x' mb=>by
      rw[VB]at mb
      cases hq:ns[i']? with
      |none=>rw[hq]at mb;cases mb
      |some c =>
       rw[hq]at mb
       simp only[Wc,Wd,VB]at mb
       obtain⟨d,_,rfl⟩:=Option.map_eq_some_iff.1 mb
       rfl)
     exact⟨u,_,_,_,LS,m1,m2,m3 _ _ _ oN,rfl,rfl⟩
    rename_i ns ee i hy aH
    obtain⟨⟨rfl,h1,h2,h3,h4,h5,h6⟩,ha⟩:=ha
    refine⟨_,_,ha,fun s' hlen nq σ w N a0 hI hR=>?_⟩
    have aT:h<s'.length:=fT nq
    have AB:jy P ⟨dst,.call ⟨.builtin .append,args,Bl⟩,ty,pos,after,guard⟩ e s' (.so s'.length 0 0 (aL.length+ns.length)) (s'++[⟨0,true,i.sz,(aL++ns).map (·.map .d)⟩]):=by
     unfold jy db fS
     simp only[wW,EY,eq_self,if_true]
     unfold dD
     rw[hx,hy,aH]
     have A2:gG s' (.fu ns)=some (ns.map (·.map .d)):=rfl
     rw[A2]
     refine⟨⟨fun e he=>?_,h2,h3⟩,?_⟩
     ·obtain⟨d,hd,rfl⟩:=List.mem_map.1 he
      simpa using h6 d hd
     ·simp only
      refine⟨⟨.inr (by simpa using h1),by simpa using h4,h5⟩,?_,?_⟩
      ·simp
      ·simp [WA]
    refine Oper.wp_mono (fun a' w' ⟨u,v,σ',s1,LS,uD,jF,oN,OD,OA⟩=>?_) (im AB σ w N a0 hI hR)
    subst OD OA
    obtain⟨m1,m2,m3⟩:=qq hI uD jF nq rfl (fun i' j x' mb=>by
     rw[VB]at mb
     cases hq:(aL++ns)[i']? with
     |none=>rw[hq]at mb;cases mb
     |some c =>
      rw[hq]at mb
      simp only[Wc,Wd,VB]at mb
      obtain⟨d,_,rfl⟩:=Option.map_eq_some_iff.1 mb
      rfl)
    exact⟨u,_,_,_,LS,m1,m2,m3 _ _ _ oN,rfl,rfl⟩
   rename_i id g lo n hx
   obtain⟨⟨rfl,Ir⟩,rfl,ha⟩:=ha
   obtain⟨callee,args,Bl⟩:=c
   simp only at yG wW EY
   subst yG
   unfold dD at ha
   cases aH:iE P t with
   |none=>rw[aH]at ha;exact ha.elim
   |some ei =>
    obtain⟨ee,i⟩:=ei
    rw[aH]at ha
    simp only at ha
    cases tJ:gG s (ev e x) with
    |none=>rw[tJ]at ha;exact ha.elim
    |some ns =>
     rw[tJ]at ha
     simp only[hx,pB,Gg]at ha
     obtain⟨h1,h2,h3,ha⟩:=ha
     refine⟨_,_,ha,fun s' hlen nq=>im ?_⟩
     unfold jy db fS
     simp only[wW,EY,eq_self,if_true]
     unfold dD
     rw[Em Ir s s',tJ,aH]
     simp only[hx,pB,nq,Gg]
     exact⟨h1,h2,h3,trivial,trivial⟩
def Km (P:Program) (o:Oper) (e:Env) (s:List Obj) (h:Nat) (K:V→List Obj→Prop):Prop :=
 match s[h]? with
 |none=>False
 |some ob=>match o.op with
  |.call c=>match c.callee,c.args.toList,c.argTypes.toList with
   |.builtin .append,[a,x],[t,t']=>match ev e a,ev e x,iE P t with
    |.cap cl _ (.so id g lo n),.fu ns,some (_,i)=>(id=h∧ob.g=g∧ob.live=true∧t=t'∧ob.sz=i.sz∧(∀e∈ns,e.length=i.sz)∧0<i.sz∧0<ns.length∧lo+n≤ob.aL.length∧n+ns.length≤cl) ∧
      K (.so id g lo (n+ns.length)) (s.set h ⟨g,true,i.sz,ob.aL.take (lo+n)++ns.map (·.map .d)++ob.aL.drop (lo+n+ns.length)⟩)
    |_,_,_=>False
   |_,_,_=>False
  |_=>False
def Jt (P:Program) (o:Oper) (e:Env) (s:List Obj) (rd:List Nat) (h:Nat) (K:V→List Obj→Prop):Prop :=
 match s[h]? with
 |none=>False
 |some ob=>match o.op with
  |.call c=>match c.callee,c.args.toList,c.argTypes.toList with
   |.builtin .append,[a,x],[t,t']=>match ev e a,ev e x,iE P t with
    |.cap _ ch (.so id g lo n),.fu ns,some (_,i)=>match s[id]? with
     |none=>False
     |some o=>(rd.contains id=true∧o.g=g∧t=t'∧o.sz=i.sz∧(∀e∈ns,e.length=i.sz)∧0<i.sz∧0<i.xN∧0<ns.length∧lo+n≤o.aL.length∧ch<n+ns.length∧(n+ns.length)*i.xN≤140737488355328 ∧
       (∀e∈o.aL,∀x∈e,ar 0 x=true))∧K (.so h (ob.g+1) 0 (n+ns.length)) (s.set h ⟨ob.g+1,true,i.sz,(o.aL.drop lo).take n++ns.map (·.map .d)⟩)
    |_,_,_=>False
   |_,_,_=>False
  |_=>False
theorem tx {full:List Oper}{dst:Option Nat}{ty:TypeId}{pos:String}{after:Array Edge}{guard:Option (Nat×Bool)}{e:Env}{a x:Operand}{Bl:Array TypeId}:∀y,y∈[a,x]→ev (lN full ⟨dst,.call ⟨.builtin .append,#[a,x],Bl⟩,ty,pos,after,guard⟩ e) y=ev e y:=by
 intro y hy
 cases y with
 |tmp k =>
  have hk:k∈(⟨dst,.call ⟨.builtin .append,#[a,x],Bl⟩,ty,pos,after,guard⟩:Oper).looksAt full.toArray:=List.mem_append_left _ (List.mem_filterMap.2 ⟨.tmp k,by
   simp only[Wu,List.not_mem_nil,or_false]at hy
   rcases hy with rfl|rfl <;> simp [Op.operands,Call.operands],rfl⟩)
  simp [ev,lN,hk]
 |_=>rfl
theorem Jg {P:Program}{full:List Oper}{o:Oper}{e:Env}{s:List Obj}{h:Nat}{K:V→List Obj→Prop} (ha:Km P o e s h K) :
  ∃v o',K v (s.set h o')∧∀s',s'.length=s.length→s'[h]?=s[h]?→FE P full o e s' v (s'.set h o'):=by
 obtain⟨dst,op,ty,pos,after,guard⟩:=o
 unfold Km at ha
 cases Gg:s[h]? with
 |none=>rw[Gg]at ha;exact ha.elim
 |some ob =>
  rw[Gg]at ha
  simp only at ha
  cases op <;> simp only at ha <;> try exact ha.elim
  rename_i c
  split at ha
  case h_2=>exact ha.elim
  rename_i a x t t' yG wW EY
  split at ha
  case h_2=>exact ha.elim
  rename_i cl ch id g lo n ns ee i O1 hex aH
  obtain⟨⟨rfl,hg,hl,rfl,gH,hz,hp,hn,hle,hr⟩,ha⟩:=ha
  refine⟨_,_,ha,fun s' hlen nq σ w N a0 hI hR=>?_⟩
  obtain⟨callee,args,Bl⟩:=c
  simp only at yG wW EY
  subst yG
  have e1:args=#[a,x]:=Array.toList_inj.1 (by rw[wW])
  have e2:Bl=#[t,t]:=Array.toList_inj.1 (by rw[EY])
  subst e1 e2
  have ra:=hR.ev a
  rw[tx a (by simp),O1]at ra
  have rx:=hR.ev x
  rw[tx x (by simp),hex]at rx
  cases ra with|cap K8 ra=>?_
  obtain⟨r,σ',w',k1,k2,k3,k4⟩:=Cm (ty:=ty) hI ra K8 rx rfl aH nq hg gH (fun e he=>by
   obtain⟨d,hd,rfl⟩:=List.mem_map.1 he
   simpa using hz d hd) hp (by simpa using hn) hle hl (by simpa using hr)
  rw[Vv]at k2 k3 k4
  exact eN (by simp [execOp,resolve,invoke,builtin,k1]) k2 k3 k4 ⟨rfl,rfl⟩
theorem KP {P:Program}{full:List Oper}{o:Oper}{e:Env}{s:List Obj}{rd:List Nat}{h:Nat}{K:V→List Obj→Prop} (ha:Jt P o e s rd h K) :
  ∃v o',K v (s.set h o')∧∀s',s'.length=s.length→s'[h]?=s[h]?→(∀id∈rd,s'[id]?=s[id]?)→FE P full o e s' v (s'.set h o'):=by
 obtain⟨dst,op,ty,pos,after,guard⟩:=o
 unfold Jt at ha
 cases Gg:s[h]? with
 |none=>rw[Gg]at ha;exact ha.elim
 |some ob =>
  rw[Gg]at ha
  simp only at ha
  cases op <;> simp only at ha <;> try exact ha.elim
  rename_i c
  split at ha
  case h_2=>exact ha.elim
  rename_i a x t t' yG wW EY
  split at ha
  case h_2=>exact ha.elim
  rename_i cl ch id g lo n ns ee i O1 hex aH
  split at ha
  ·exact ha.elim
  rename_i o ho
  obtain⟨⟨SU,hg,rfl,gH,hz,hp,QI,hn,hle,hr,hb,hd⟩,ha⟩:=ha
  refine⟨_,_,ha,fun s' hlen nq Gz σ w N a0 hI hR=>?_⟩
  obtain⟨callee,args,Bl⟩:=c
  simp only at yG wW EY
  subst yG
  have e1:args=#[a,x]:=Array.toList_inj.1 (by rw[wW])
  have e2:Bl=#[t,t]:=Array.toList_inj.1 (by rw[EY])
  subst e1 e2
  have ra:=hR.ev a
  rw[tx a (by simp),O1]at ra
  have rx:=hR.ev x
  rw[tx x (by simp),hex]at rx
  cases ra with|cap K8 ra=>?_
  have jj:s'[id]?=some o:=(Gz id (by simpa using SU)).trans ho
  obtain⟨r,σ',w',k1,k2,k3,k4⟩:=BW (ty:=ty) hI ra K8 rx rfl aH jj hg gH (fun e he=>by
   obtain⟨d,hd,rfl⟩:=List.mem_map.1 he
   simpa using hz d hd) hp (by simpa using hn) hle QI (by simpa using hb) (by simpa using hr)
  rw[Vv]at k4
  obtain⟨m1,m2,m3⟩:=qq hI k2 k3 nq rfl (fun i' j x' mb=>by
   simp only at mb
   cases hq:((o.aL.drop lo).take n++ns.map (·.map .d))[i']? with
   |none=>rw[hq]at mb;cases mb
   |some c =>
    rw[hq]at mb
    have hm:=Vy mb
    rcases List.mem_append.1 (Vy hq) with hc|hc
    ·exact hd c (List.mem_of_mem_drop (Wo hc)) x' hm
    ·obtain⟨dd,_,rfl⟩:=List.mem_map.1 hc
     obtain⟨y,_,rfl⟩:=List.mem_map.1 hm
     rfl)
  exact eN (by simp [execOp,resolve,invoke,builtin,k1]) m1 m2 (m3 _ _ _ k4) ⟨rfl,rfl⟩
def JD (s:List Obj) (K:V→List Obj→Prop) (v:V) (s1:List Obj):Prop:=s1=s∧K v s
theorem qn {s:List Obj}{K:V→List Obj→Prop}{v:V}{s1:List Obj}:JD s K v s1=(s1=s∧K v s):=(rfl)
def AW (o:Oper) (e:Env) (ws:List Nat):Bool:=Ic o&&(oE e o).all fun id=>!ws.contains id
def Lq (o:Oper) (e:Env) (rd:List Nat):Bool:=Ic o&&(oE e o).all fun id=>rd.contains id
def eW (P:Program) (bars:List Nat) (fs:cN) (i:Nat) (o:Oper) (e:Env) (s:List Obj) (K:V→List Obj→Prop):Prop :=
 match bars.contains i with
 |true=>match jL o e with
  |some (some (f,args))=>Mx P f args s K
  |some none=>False
  |none=>db P o e s K
 |false=>match fZ fs i with
  |none=>match jL o e with
   |some (some (f,args))=>MO P f args s K
   |some none=>False
   |none=>AW o e (A9 fs)=true∧db P o e s (JD s K)
  |some (rd,wr)=>match jL o e with
   |some (some (f,args))=>C4 P rd wr f args s K
   |some none=>False
   |none=>match wr with
    |[]=>Lq o e rd=true∧db P o e s (JD s K)
    |[h]=>rd.contains h=true∧Jl P o e s h K
    |[h,_]=>rd.contains h=true∧Km P o e s h K
    |[h,_,_]=>rd.contains h=true∧Jt P o e s rd h K
    |_=>False
theorem sP:∀(ρ:List Nat) (os:List Obj) (s s':List Obj) (id:Nat),id∈ρ→os.length=ρ.length→s.length=s'.length→(bm s ρ os)[id]?=(bm s' ρ os)[id]?
 |[],_,_,_,_,h,_,_=>by cases h
 |r::ρ,[],_,_,_,_,h,_=>by simp at h
 |r::ρ,o::os,s,s',id,h,hl,hs=>by
  simp only[bm]
  by_cases hm:id∈ρ
  ·exact sP ρ os _ _ id hm (by simpa using hl) (by simpa using hs)
  ·have:id=r:=by rcases List.mem_cons.1 h with h|h;exact h;exact absurd h hm
   subst this
   rw[fH ρ os _ _ hm,fH ρ os _ _ hm]
   by_cases aT:id<s.length
   ·rw[V8 aT,V8 (by omega)]
   ·rw[Wb (by simp;omega),Wb (by simp;omega)]
theorem HH {P:Program}{full:List Oper}{bars:List Nat}{fs:cN}{i:Nat}{o:Oper}{e:Env}{s:List Obj}{K:V→List Obj→Prop} (hg:∀g want,o.guard=some (g,want)→∃d,jM full g=some d∧e d=.d (.sc (.bool want))) (h:eW P bars fs i o e s K) :
  ∃v tf,F3 P full bars fs i o ⟨some v,tf⟩ e s∧K v (tf s):=by
 unfold eW at h
 cases hb:bars.contains i with
 |true =>
  rw[hb]at h
  simp only at h
  have SE:∀v s1,jy P o e s v s1→K v s1→∃v tf,F3 P full bars fs i o ⟨some v,tf⟩ e s∧K v (tf s):=by
   intro v s1 h1 h2
   refine⟨v,fun _=>s1,⟨(fun h=>by rw[hb]at h;cases h),hg,fun s' _ h' _=>?_⟩,h2⟩
   rw[h' hb]
   exact im h1
  split at h
  ·rename_i f args hc
   obtain⟨v,s1,h1,h2⟩:=h
   exact SE v s1 (by unfold jy;rw[w5 hc];exact h1) h2
  ·exact h.elim
  ·rename_i hc
   obtain⟨v,s1,h1,h2⟩:=Eu (rZ hc) _ h
   exact SE v s1 h1 h2
 |false =>
  rw[hb]at h
  simp only at h
  cases hf:fZ fs i with
  |none =>
   rw[hf]at h
   simp only at h
   have PW:FC fs i fun s=>s:=fun s=>⟨rfl,fun _ _=>rfl,fun s' hl id hw _=>by simp [lh,hf]at hw⟩
   split at h
   ·rename_i f args hc
    obtain⟨v,h1,h2⟩:=h
    exact⟨v,fun s=>s,⟨fun _=>PW,hg,fun s' _ _ _=>im (by unfold jy;rw[w5 hc];exact h1 s')⟩,h2⟩
   ·exact h.elim
   ·rename_i hc
    obtain⟨hr,h⟩:=h
    obtain⟨v,s1,h1,h2,h3⟩:=Eu (rZ hc) _ h
    subst h2
    simp only[AW,VE,VT,Bool.not_eq_true',List.contains_eq_mem,decide_eq_false_iff_not]at hr
    refine⟨v,fun s=>s,⟨fun _=>PW,hg,fun s' _ _ Gz=>im (Ca hr.1 (fun id dB=>Gz id ?_) h1)⟩,h3⟩
    unfold IU
    rw[hf]
    exact hr.2 id dB
  |some TV =>
   obtain⟨rd,wr⟩:=TV
   rw[hf]at h
   simp only at h
   split at h
   ·rename_i f args hc
    obtain⟨v,os,hl,h1,h2⟩:=h
    refine⟨v,fun s=>bm s wr os,⟨fun _ s=>⟨lH _ _ _,fun id dB=>fH _ _ _ _ (by simpa [lh,hf]using dB),fun s' GA id dB _=>sP _ _ _ _ _ (by simpa [lh,hf]using dB) hl GA.symm⟩,hg,
     fun s' GA _ Gz=>im (by unfold jy;rw[w5 hc];exact h1 s' GA fun id dB=>Gz id (by unfold IU;rw[hf];exact dB))⟩,h2⟩
   ·exact h.elim
   ·rename_i hc
    split at h
    ·obtain⟨hr,h⟩:=h
     obtain⟨v,s1,h1,h2,h3⟩:=Eu (rZ hc) _ h
     subst h2
     simp only[Lq,VE,VT,List.contains_eq_mem,decide_eq_true_eq]at hr
     refine⟨v,fun s=>s,⟨fun _ s=>⟨rfl,fun _ _=>rfl,fun s' hl id hw _=>by simp [lh,hf]at hw⟩,hg,fun s' _ _ Gz=>im (Ca hr.1 (fun id dB=>Gz id ?_) h1)⟩,h3⟩
     unfold IU
     rw[hf]
     exact hr.2 id dB
    ·rename_i hh
     obtain⟨hr,h⟩:=h
     obtain⟨v,o',h1,h2⟩:=KN (full:=full) h
     refine⟨v,fun s=>s.set hh o',⟨fun _ s=>⟨by simp,fun id dB=>?_,fun s' GA id dB _=>?_⟩,hg,fun s' GA _ Gz=>h2 s' GA (Gz hh ?_)⟩,h1⟩
     ·have:id≠hh:=by simpa [lh,hf]using dB
      exact Wg (Ne.symm this)
     ·have:id=hh:=by simpa [lh,hf]using dB
      subst this
      by_cases aT:id<s.length
      ·rw[V8 aT,V8 (by omega)]
      ·rw[Wb (by simp;omega),Wb (by simp;omega)]
     ·unfold IU
      rw[hf]
      simpa using hr
    ·rename_i hh US
     obtain⟨hr,h⟩:=h
     obtain⟨v,o',h1,h2⟩:=Jg (full:=full) h
     refine⟨v,fun s=>s.set hh o',⟨fun _ s=>⟨by simp,fun id dB=>?_,fun s' GA id dB Oo=>?_⟩,hg,fun s' GA _ Gz=>h2 s' GA (Gz hh ?_)⟩,h1⟩
     ·have:id≠hh:=by
       intro he;subst he;simp [lh,hf]at dB
      exact Wg (Ne.symm this)
     ·by_cases he:id=hh
      ·subst he
       by_cases aT:id<s.length
       ·rw[V8 aT,V8 (by omega)]
       ·rw[Wb (by simp;omega),Wb (by simp;omega)]
      ·rw[Wg (Ne.symm he),Wg (Ne.symm he)]
       exact Oo.symm
     ·unfold IU
      rw[hf]
      simpa using hr
    ·rename_i hh US Va
     obtain⟨hr,h⟩:=h
     obtain⟨v,o',h1,h2⟩:=KP (full:=full) h
     refine⟨v,fun s=>s.set hh o',⟨fun _ s=>⟨by simp,fun id dB=>?_,fun s' GA id dB Oo=>?_⟩,hg,fun s' GA _ Gz=>h2 s' GA (Gz hh ?_) fun id dB=>Gz id (by unfold IU;rw[hf];exact dB)⟩,h1⟩
     ·have:id≠hh:=by
       intro he;subst he;simp [lh,hf]at dB
      exact Wg (Ne.symm this)
     ·by_cases he:id=hh
      ·subst he
       by_cases aT:id<s.length
       ·rw[V8 aT,V8 (by omega)]
       ·rw[Wb (by simp;omega),Wb (by simp;omega)]
      ·rw[Wg (Ne.symm he),Wg (Ne.symm he)]
       exact Oo.symm
     ·unfold IU
      rw[hf]
      simpa using hr
    ·exact h.elim
def fN (P:Program) (N:Nat) (full:List Oper) (bars:List Nat) (fs:cN):Nat→List Oper→Env→List Obj→(Env→List Obj→Prop)→Prop
 |_,[],e,s,K=>K e s
 |i,o::rest,e,s,K=>ep N o.dst∧match o.guard with
  |none=>match o.op with
   |.pick c a b=>bars.contains i=false∧fZ fs i=none∧fV (ev e c) (fN P N full bars fs (i+1) rest (gQ e o.dst (ev e a)) s K) (fN P N full bars fs (i+1) rest (gQ e o.dst (ev e b)) s K)
   |_=>eW P bars fs i o e s fun v s1=>fN P N full bars fs (i+1) rest (gQ e o.dst v) s1 K
  |some (g,want)=>jw (jM full g) e want (fun e=>eW P bars fs i o e s fun v s1=>fN P N full bars fs (i+1) rest (gQ e o.dst v) s1 K)
    (fun e=>fN P N full bars fs (i+1) rest (gQ e o.dst .un) s K)
theorem od {P:Program}{N:Nat}{full:List Oper}{bars:List Nat}{fs:cN}:∀(l:List Oper) (i:Nat) (e:Env) (s:List Obj) (K:Env→List Obj→Prop),fN P N full bars fs i l e s K →
  ∃tr e' s',Trace P N full bars fs i l tr e s e' s'∧K e' s'
 |[],i,e,s,K,h=>⟨[],e,s,⟨rfl,rfl⟩,h⟩
 |o::rest,i,e,s,K,h=>by
  obtain⟨hd,h⟩:=h
  have run:(∀g want,o.guard=some (g,want)→∃d,jM full g=some d∧e d=.d (.sc (.bool want)))→(eW P bars fs i o e s fun v s1=>fN P N full bars fs (i+1) rest (gQ e o.dst v) s1 K) →
    ∃tr e' s',Trace P N full bars fs i (o::rest) tr e s e' s'∧K e' s':=by
   intro hg h
   obtain⟨v,tf,h1,h2⟩:=HH hg h
   obtain⟨tr,e',s',k1,k2⟩:=od rest (i+1) _ _ K h2
   exact⟨⟨some v,tf⟩::tr,e',s',⟨hd,h1,k1⟩,k2⟩
  split at h
  ·rename_i hg
   have QH:∀g want,o.guard=some (g,want)→∃d,jM full g=some d∧e d=.d (.sc (.bool want)):=fun g want h=>by rw[hg]at h;cases h
   split at h
   ·rename_i c a b Is
    obtain⟨Vh,Ul,h⟩:=h
    unfold fV at h
    split at h
    ·rename_i bb K7
     have go:∀(v:V),(∀s',jy P o e s' v s')→fN P N full bars fs (i+1) rest (gQ e o.dst v) s K→∃tr e' s',Trace P N full bars fs i (o::rest) tr e s e' s'∧K e' s':=by
      intro v hv h2
      obtain⟨tr,e',s',k1,k2⟩:=od rest (i+1) _ _ K h2
      exact⟨⟨some v,fun s=>s⟩::tr,e',s',⟨hd,⟨fun _ s=>⟨rfl,fun _ _=>rfl,fun s' hl id hw _=>by simp [lh,Ul]at hw⟩,QH,fun s' _ _ _=>im (hv s')⟩,k1⟩,k2⟩
     cases bb with
     |true=>exact go _ (fun s'=>by simp [jy,db,Is,fV,K7]) (h.1 rfl)
     |false=>exact go _ (fun s'=>by simp [jy,db,Is,fV,K7]) (h.2 rfl)
    ·exact h.elim
   ·exact run QH h
  ·rename_i g want hg
   unfold jw at h
   split at h
   case h_1=>exact h.elim
   rename_i d M5
   have skip:(e d=.d (.sc (.bool (!want)))∨e d=.un)→fN P N full bars fs (i+1) rest (gQ e o.dst .un) s K →
     ∃tr e' s',Trace P N full bars fs i (o::rest) tr e s e' s'∧K e' s':=by
    intro hv h2
    obtain⟨tr,e',s',k1,k2⟩:=od rest (i+1) _ _ K h2
    exact⟨⟨none,fun s=>s⟩::tr,e',s',⟨hd,⟨fun _ s=>⟨rfl,fun _ _=>rfl,fun s' hl id _ h=>h.symm⟩,fun _=>rfl,g,want,d,hg,M5,hv⟩,k1⟩,k2⟩
   split at h
   ·rename_i b hb
    by_cases Sz:b=want
    ·subst Sz
     have:=h.1 rfl
     rw[zy hb]at this
     exact run (fun g' Td xg=>by rw[hg]at xg;cases xg;exact⟨d,M5,hb⟩) this
    ·have RD:b=!want:=by cases b <;> cases want <;> simp_all
     subst RD
     have:=h.2 rfl
     rw[zy hb]at this
     exact skip (.inl hb) this
   ·rename_i hb
    exact skip (.inr hb) h
   ·exact h.elim
def fz (P:Program) (N:Nat) (full:List Oper) (bars:List Nat) (fs:cN) (i:Nat) (rest:List Oper) (e:Env) (d:Option Nat) (K:Env→List Obj→Prop) (v:V) (s:List Obj):Prop:=fN P N full bars fs i rest (gQ e d v) s K
theorem qR {P:Program}{N:Nat}{full:List Oper}{bars:List Nat}{fs:cN}{i:Nat}{rest:List Oper}{e:Env}{d:Option Nat}{K:Env→List Obj→Prop}{v:V}{s:List Obj}:fz P N full bars fs i rest e d K v s=fN P N full bars fs i rest (gQ e d v) s K:=(rfl)
theorem sV {P:Program}{N:Nat}{full:List Oper}{bars:List Nat}{fs:cN}{i:Nat}{e:Env}{s:List Obj}{K:Env→List Obj→Prop}:fN P N full bars fs i [] e s K=K e s:=(rfl)
theorem an {P:Program}{N:Nat}{full:List Oper} (hm:P.follows .mixedOrders=true) (bars:List Nat) (fs:cN) {e:Env}{s:List Obj}{K:Env→List Obj→Prop} (hd:iT full bars fs=true) (h:fN P N full bars fs 0 full e s K):uJ P N full e s K:=by
 obtain⟨tr,e',s',h1,h2⟩:=od _ _ _ _ _ h
 exact CX hm hd h1 h2
theorem cz {P:Program}{f:FuncId}{args:List V}{r:V}{s:List Obj}{K:V→List Obj→Prop} (h:bI P f args r) (ha:ar.go 0 args=true) (hr:ar 0 r=true) (hk:K r s):MO P f args s K :=
 ⟨r,fun s'=>aE h ha hr ⟨rfl,rfl⟩,hk⟩
theorem bn {P:Program}{f:FuncId}{args:List V}{s:List Obj}{K:V→List Obj→Prop}{r:V}{s1:List Obj} (h:az P f args s fun v' D5=>v'=r∧D5=s1) (hk:K r s1):Mx P f args s K:=⟨r,s1,h,hk⟩
def bL (e:Env) (s:List Obj) (e':Env) (s':List Obj):Prop :=
 ∀(σ0:Gh) (s0:List Obj) (w0:World) (σ:Gh) (w:World) (N:Nat) (a:Act),bc σ0 s0 w0 σ s w→Inv σ s w→fK σ s w N e a→∃σ',bc σ0 s0 w0 σ' s' w∧Inv σ' s' w∧fK σ' s' w N e' a
theorem aK {P:Program}{N:Nat}{full:List Oper}{e e':Env}{s s':List Obj}{K:Env→List Obj→Prop} (h:bL e s e' s') (k:uJ P N full e' s' K):uJ P N full e s K:=by
 intro σ0 s0 w0 Q RK σ w a id hE hI hR
 obtain⟨σ',h1,h2,h3⟩:=h σ0 s0 w0 σ w N a hE hI hR
 exact k σ0 s0 w0 Q RK σ' w a id h1 h2 h3
def hole:Obj:=⟨0,true,0,[]⟩
theorem bL.aV {e:Env}{s:List Obj}:bL e s e (s++[hole]):=by
 intro σ0 s0 w0 σ w N a hE hI hR
 have:=lR (p:=none) (o':=hole) (w':=w) hI rfl rfl rfl (VA _) (fun _ _=>rfl) (fun _ _ h'=>by cases h') (fun _=>.inl (.inl ⟨rfl,rfl⟩))
 exact⟨_,hE.trans this.1,this.2,hR.bM this.1⟩
theorem bL.trans {e e' QG:Env}{s s' D5:List Obj} (h:bL e s e' s') (k:bL e' s' QG D5):bL e s QG D5:=by
 intro σ0 s0 w0 σ w N a hE hI hR
 obtain⟨σ',h1,h2,h3⟩:=h σ0 s0 w0 σ w N a hE hI hR
 exact k σ0 s0 w0 σ' w N a h1 h2 h3
def fy (s:List Obj) (zc:List Nat) (e:Env):Env:=fun t=>if zc.contains t then Fw s.length s (e t) else e t
theorem bL.freeze {e:Env}{s:List Obj} (ids zc:List Nat):bL e s (fy (bk s ids) zc e) (bk s ids):=by
 intro σ0 s0 w0 σ w N a hE hI hR
 obtain⟨h1,h2⟩:=tA ids s hI
 refine⟨σ,hE.trans h1,h2,hR.1,hR.2.1,fun t=>?_⟩
 unfold fy
 split
 ·have:=CS h2 (cL:=(bk s ids).length) ((hR.2.2 t).bM h1)
  rwa [We]at this
 ·exact(hR.2.2 t).bM h1
theorem au {P:Program}{f:FuncId}{args:List V}{o o':Obj}{r:V}{rest:List Obj}{K:V→List Obj→Prop} (h:az P f args [o] fun v s'=>v=r∧s'=[o']) (ha:args.map (bu [0])=args) (rn:ar.go 1 args=true)
  (hoo:cP 1 o=true) (ho:ct [0] o=o) (jj:ct [0] o'=o') (hr:bu [0] r=r) (hk:K r (o'::rest)):az P f args (o::rest) K:=by
 refine rN h [0] rfl (by simp) (fun k ob hk=>?_) ha.symm rn (by simp [hoo]) fun v s' hv=>?_
 ·cases k with
  |zero=>simp at hk;subst hk;simp [ho]
  |succ k=>simp at hk
 ·obtain⟨rfl,rfl⟩:=hv
  refine⟨rfl,?_⟩
  rw[hr]
  simpa [bm,jj]using hk
theorem y8 {P:Program}{f:FuncId}{args:List V}{o o':Obj}{r:V}{rest:List Obj}{K:V→List Obj→Prop} (h:az P f args [o] fun v s'=>v=r∧s'=[o']) (ha:args.map (bu [0])=args) (rn:ar.go 1 args=true)
  (hoo:cP 1 o=true) (ho:ct [0] o=o) (jj:ct [0] o'=o') (hr:bu [0] r=r) (hk:K r (o'::rest)):C4 P [0] [0] f args (o::rest) K:=by
 refine⟨r,[o'],rfl,fun s' hl hs=>?_,by simpa [bm]using hk⟩
 cases s' with
 |nil=>simp at hl
 |cons o1 TI =>
  have:o1=o:=by have:=hs 0 (by simp);simpa using this
  subst this
  exact au h ha rn hoo ho jj hr ⟨rfl,by simp [bm]⟩
def ym (K:V→List Obj→Prop) (s:List Obj) (v:V):Prop:=K v s
theorem wy {K:V→List Obj→Prop}{s:List Obj}{v:V}:ym K s v=K v s:=(rfl)
def QQ (K:V→List Obj→Prop) (s:List Obj):Prop:=K .un s
theorem wu {K:V→List Obj→Prop}{s:List Obj}:QQ K s=K .un s:=(rfl)
def lY {α β:Type} (x:V) (A B:α→β→Prop) (e:α) (s:β):Prop:=oY x (A e s) (B e s)
theorem ot {α β:Type}{A B:α→β→Prop}{e:α}{s:β}:lY (.d (.sc (.bool true))) A B e s=A e s:=by simp [lY,oY,fV]
theorem mg {α β:Type}{A B:α→β→Prop}{e:α}{s:β}:lY (.d (.sc (.bool false))) A B e s=B e s:=by simp [lY,oY,fV]
theorem tP {α β:Type}{A B:α→β→Prop}{e:α}{s:β}{p:Prop} [Decidable p]:lY (.d (.sc (.bool (decide p)))) A B e s=((p→A e s)∧(¬p→B e s)):=by simp [lY,oY,fV]
theorem qM {α β:Type}{A B:α→β→Prop}{e:α}{s:β}{b:Bool}:lY (.d (.sc (.bool (!b)))) A B e s=lY (.d (.sc (.bool b))) B A e s:=by cases b <;> simp [lY,oY,fV]
theorem s6 {α β:Type}{A B:α→β→Prop}{e:α}{s:β}:lY (.d .ub) A B e s=(A e s∧B e s):=(rfl)
theorem GW {α β:Type}{A B:α→β→Prop}{e:α}{s:β}{b:Bool}:lY (.d (.sc (.bool b))) A B e s=((b=true→A e s)∧(b=false→B e s)):=by simp [lY,oY,fV]
def oR (x:V) (A B:List Obj→Prop) (s:List Obj):Prop:=fV x (A s) (B s)
theorem oD {A B:List Obj→Prop}{s:List Obj}:oR (.d (.sc (.bool true))) A B s=A s:=by simp [oR,fV]
theorem mq {A B:List Obj→Prop}{s:List Obj}:oR (.d (.sc (.bool false))) A B s=B s:=by simp [oR,fV]
theorem zV {A B:List Obj→Prop}{s:List Obj}{p:Prop} [Decidable p]:oR (.d (.sc (.bool (decide p)))) A B s=((p→A s)∧(¬p→B s)):=by simp [oR,fV]
theorem qo {A B:List Obj→Prop}{s:List Obj}{b:Bool}:oR (.d (.sc (.bool (!b)))) A B s=oR (.d (.sc (.bool b))) B A s:=by cases b <;> simp [oR,fV]
def eJ (x:V) (d:Nat) (want:Bool) (A B:Env→Prop) (e:Env):Prop :=
 match x with
 |.d (.sc (.bool b))=>(b=want→A (cu e d (.d (.sc (.bool want)))))∧(b=(!want)→B (cu e d (.d (.sc (.bool (!want))))))
 |.un=>B e
 |_=>False
theorem qG {d:Nat}{A B:Env→Prop}{e:Env}:eJ (.d (.sc (.bool true))) d true A B e=A (cu e d (.d (.sc (.bool true)))):=by simp [eJ]
theorem qe {d:Nat}{A B:Env→Prop}{e:Env}:eJ (.d (.sc (.bool false))) d false A B e=A (cu e d (.d (.sc (.bool false)))):=by simp [eJ]
theorem qU {d:Nat}{A B:Env→Prop}{e:Env}:eJ (.d (.sc (.bool true))) d false A B e=B (cu e d (.d (.sc (.bool true)))):=by simp [eJ]
theorem qp {d:Nat}{A B:Env→Prop}{e:Env}:eJ (.d (.sc (.bool false))) d true A B e=B (cu e d (.d (.sc (.bool false)))):=by simp [eJ]
theorem qT {d:Nat}{want:Bool}{A B:Env→Prop}{e:Env}:eJ .un d want A B e=B e:=(rfl)
theorem uR {d:Nat}{A B:Env→Prop}{e:Env}{p:Prop} [Decidable p]:eJ (.d (.sc (.bool (decide p)))) d true A B e=((p→A (cu e d (.d (.sc (.bool true)))))∧(¬p→B (cu e d (.d (.sc (.bool false)))))):=by simp [eJ]
theorem tI {d:Nat}{A B:Env→Prop}{e:Env}{p:Prop} [Decidable p]:eJ (.d (.sc (.bool (decide p)))) d false A B e=((p→B (cu e d (.d (.sc (.bool true)))))∧(¬p→A (cu e d (.d (.sc (.bool false)))))):=by
 simp only[eJ,decide_eq_false_iff_not,Vt,decide_eq_true_eq];exact propext And.comm
theorem rY {d:Nat}{A B:Env→Prop}{e:Env}{p:Prop} [Decidable p]:eJ (.d (.sc (.bool (!decide p)))) d true A B e=((p→B (cu e d (.d (.sc (.bool false)))))∧(¬p→A (cu e d (.d (.sc (.bool true)))))):=by
 simp only[eJ,Bool.not_eq_true',Vs,Bool.not_eq_false',decide_eq_false_iff_not,decide_eq_true_eq];exact propext And.comm
theorem rR {d:Nat}{A B:Env→Prop}{e:Env}{p:Prop} [Decidable p]:eJ (.d (.sc (.bool (!decide p)))) d false A B e=((p→A (cu e d (.d (.sc (.bool false)))))∧(¬p→B (cu e d (.d (.sc (.bool true)))))):=by
 simp only[eJ,Bool.not_eq_true',Vt,Bool.not_eq_false',decide_eq_false_iff_not,decide_eq_true_eq]
def Bf (x:Option Nat) (want:Bool) (A B:Env→Prop) (e:Env):Prop:=jw x e want A B
theorem me {d:Nat}{want:Bool}{A B:Env→Prop}{e:Env}:Bf (some d) want A B e=eJ (e d) d want A B e:=by
 unfold Bf jw eJ;exact(rfl)
def gA (P:Program) (N:Nat) (full rest:List Oper) (d:Option Nat) (o:Oper) (s:List Obj) (K:Env→List Obj→Prop) (e:Env):Prop:=db P o e s (cont P N full rest e d K)
def gB (P:Program) (N:Nat) (full rest:List Oper) (d:Option Nat) (s:List Obj) (K:Env→List Obj→Prop) (e:Env):Prop:=mr P N full rest (gQ e d .un) s K
theorem Ay {P:Program}{N:Nat}{full rest:List Oper}{d:Option Nat}{o:Oper}{s:List Obj}{K:Env→List Obj→Prop}{e:Env}:gA P N full rest d o s K e=db P o e s (cont P N full rest e d K):=(rfl)
theorem AP {P:Program}{N:Nat}{full rest:List Oper}{d:Option Nat}{s:List Obj}{K:Env→List Obj→Prop}{e:Env}:gB P N full rest d s K e=mr P N full rest (gQ e d .un) s K:=(rfl)
theorem qD {P:Program}{N:Nat}{full rest:List Oper}{d:Option Nat}{op:Op}{ty:TypeId}{pos:String}{af:Array Edge}{e:Env}{s:List Obj}{K:Env→List Obj→Prop} :
  mr P N full (⟨d,op,ty,pos,af,none⟩::rest) e s K=(ep N d∧db P ⟨d,op,ty,pos,af,none⟩ e s (cont P N full rest e d K)):=(rfl)
theorem qb {P:Program}{N:Nat}{full rest:List Oper}{d:Option Nat}{op:Op}{ty:TypeId}{pos:String}{af:Array Edge}{g:Nat}{want:Bool}{e:Env}{s:List Obj}{K:Env→List Obj→Prop} :
  mr P N full (⟨d,op,ty,pos,af,some (g,want)⟩::rest) e s K=(ep N d∧Bf (jM full g) want (gA P N full rest d ⟨d,op,ty,pos,af,some (g,want)⟩ s K) (gB P N full rest d s K) e):=(rfl)
theorem nM {P:Program}{N L M:Nat}{Q:Exit→Env→List Obj→Prop}{e:Env}{s:List Obj}{c:Operand}{a b:Code}:codeWp P N L M (.cond c a b) Q e s=lY (ev e c) (codeWp P N L M a Q) (codeWp P N L M b Q) (mG M e) s:=(rfl)
def hA (P:Program) (N:Nat) (full:List Oper) (bars:List Nat) (fs:cN) (i:Nat) (rest:List Oper) (d:Option Nat) (o:Oper) (s:List Obj) (K:Env→List Obj→Prop) (e:Env):Prop:=eW P bars fs i o e s (fz P N full bars fs (i+1) rest e d K)
def hB (P:Program) (N:Nat) (full:List Oper) (bars:List Nat) (fs:cN) (i:Nat) (rest:List Oper) (d:Option Nat) (s:List Obj) (K:Env→List Obj→Prop) (e:Env):Prop:=fN P N full bars fs (i+1) rest (gQ e d .un) s K
theorem Aq {P:Program}{N:Nat}{full:List Oper}{bars:List Nat}{fs:cN}{i:Nat}{rest:List Oper}{d:Option Nat}{o:Oper}{s:List Obj}{K:Env→List Obj→Prop}{e:Env}:hA P N full bars fs i rest d o s K e=eW P bars fs i o e s (fz P N full bars fs (i+1) rest e d K):=(rfl)
theorem Aw {P:Program}{N:Nat}{full:List Oper}{bars:List Nat}{fs:cN}{i:Nat}{rest:List Oper}{d:Option Nat}{s:List Obj}{K:Env→List Obj→Prop}{e:Env}:hB P N full bars fs i rest d s K e=fN P N full bars fs (i+1) rest (gQ e d .un) s K:=(rfl)
theorem qh {P:Program}{N:Nat}{full:List Oper}{bars:List Nat}{fs:cN}{i:Nat}{rest:List Oper}{d:Option Nat}{x:Operand}{ty:TypeId}{pos:String}{af:Array Edge}{e:Env}{s:List Obj}{K:Env→List Obj→Prop} :
  fN P N full bars fs i (⟨d,.move x,ty,pos,af,none⟩::rest) e s K=(ep N d∧eW P bars fs i ⟨d,.move x,ty,pos,af,none⟩ e s (fz P N full bars fs (i+1) rest e d K)):=(rfl)
theorem mj {P:Program}{N:Nat}{full:List Oper}{bars:List Nat}{fs:cN}{i:Nat}{rest:List Oper}{d:Option Nat}{x:Operand}{ty:TypeId}{pos:String}{af:Array Edge}{e:Env}{s:List Obj}{K:Env→List Obj→Prop} :
  fN P N full bars fs i (⟨d,.assign x,ty,pos,af,none⟩::rest) e s K=(ep N d∧eW P bars fs i ⟨d,.assign x,ty,pos,af,none⟩ e s (fz P N full bars fs (i+1) rest e d K)):=(rfl)
theorem nK {P:Program}{N:Nat}{full:List Oper}{bars:List Nat}{fs:cN}{i:Nat}{rest:List Oper}{d:Option Nat}{t:TypeId}{ty:TypeId}{pos:String}{af:Array Edge}{e:Env}{s:List Obj}{K:Env→List Obj→Prop} :
  fN P N full bars fs i (⟨d,.alloc t,ty,pos,af,none⟩::rest) e s K=(ep N d∧eW P bars fs i ⟨d,.alloc t,ty,pos,af,none⟩ e s (fz P N full bars fs (i+1) rest e d K)):=(rfl)
theorem sr {P:Program}{N:Nat}{full:List Oper}{bars:List Nat}{fs:cN}{i:Nat}{rest:List Oper}{d:Option Nat}{t:TypeId}{x:Operand}{ty:TypeId}{pos:String}{af:Array Edge}{e:Env}{s:List Obj}{K:Env→List Obj→Prop} :
  fN P N full bars fs i (⟨d,.box t x,ty,pos,af,none⟩::rest) e s K=(ep N d∧eW P bars fs i ⟨d,.box t x,ty,pos,af,none⟩ e s (fz P N full bars fs (i+1) rest e d K)):=(rfl)
theorem n7 {P:Program}{N:Nat}{full:List Oper}{bars:List Nat}{fs:cN}{i:Nat}{rest:List Oper}{d:Option Nat}{t:TypeId}{parts:Array (Nat×Operand)}{ty:TypeId}{pos:String}{af:Array Edge}{e:Env}{s:List Obj}{K:Env→List Obj→Prop} :
  fN P N full bars fs i (⟨d,.build t parts,ty,pos,af,none⟩::rest) e s K=(ep N d∧eW P bars fs i ⟨d,.build t parts,ty,pos,af,none⟩ e s (fz P N full bars fs (i+1) rest e d K)):=(rfl)
theorem iN {P:Program}{N:Nat}{full:List Oper}{bars:List Nat}{fs:cN}{i:Nat}{rest:List Oper}{d:Option Nat}{t:TypeId}{n:Nat}{parts:Array (Nat×Operand)}{ty:TypeId}{pos:String}{af:Array Edge}{e:Env}{s:List Obj}{K:Env→List Obj→Prop} :
  fN P N full bars fs i (⟨d,.buildSlice t n parts,ty,pos,af,none⟩::rest) e s K=(ep N d∧eW P bars fs i ⟨d,.buildSlice t n parts,ty,pos,af,none⟩ e s (fz P N full bars fs (i+1) rest e d K)):=(rfl)
theorem qI {P:Program}{N:Nat}{full:List Oper}{bars:List Nat}{fs:cN}{i:Nat}{rest:List Oper}{d:Option Nat}{t:TypeId}{a:Operand}{ty:TypeId}{pos:String}{af:Array Edge}{e:Env}{s:List Obj}{K:Env→List Obj→Prop} :
  fN P N full bars fs i (⟨d,.load t a,ty,pos,af,none⟩::rest) e s K=(ep N d∧eW P bars fs i ⟨d,.load t a,ty,pos,af,none⟩ e s (fz P N full bars fs (i+1) rest e d K)):=(rfl)
theorem lf {P:Program}{N:Nat}{full:List Oper}{bars:List Nat}{fs:cN}{i:Nat}{rest:List Oper}{d:Option Nat}{t:TypeId}{r:Option Operand}{ty:TypeId}{pos:String}{af:Array Edge}{e:Env}{s:List Obj}{K:Env→List Obj→Prop} :
  fN P N full bars fs i (⟨d,.makeMap t r,ty,pos,af,none⟩::rest) e s K=(ep N d∧eW P bars fs i ⟨d,.makeMap t r,ty,pos,af,none⟩ e s (fz P N full bars fs (i+1) rest e d K)):=(rfl)
theorem mO {P:Program}{N:Nat}{full:List Oper}{bars:List Nat}{fs:cN}{i:Nat}{rest:List Oper}{d:Option Nat}{t:TypeId}{x i':Operand}{ok:Bool}{ty:TypeId}{pos:String}{af:Array Edge}{e:Env}{s:List Obj}{K:Env→List Obj→Prop} :
  fN P N full bars fs i (⟨d,.lookup t x i' ok,ty,pos,af,none⟩::rest) e s K=(ep N d∧eW P bars fs i ⟨d,.lookup t x i' ok,ty,pos,af,none⟩ e s (fz P N full bars fs (i+1) rest e d K)):=(rfl)
theorem jo {P:Program}{N:Nat}{full:List Oper}{bars:List Nat}{fs:cN}{i:Nat}{rest:List Oper}{d:Option Nat}{t:TypeId}{m k x:Operand}{ty:TypeId}{pos:String}{af:Array Edge}{e:Env}{s:List Obj}{K:Env→List Obj→Prop} :
  fN P N full bars fs i (⟨d,.mapUpdate t m k x,ty,pos,af,none⟩::rest) e s K=(ep N d∧eW P bars fs i ⟨d,.mapUpdate t m k x,ty,pos,af,none⟩ e s (fz P N full bars fs (i+1) rest e d K)):=(rfl)
theorem oy {P:Program}{N:Nat}{full:List Oper}{bars:List Nat}{fs:cN}{i:Nat}{rest:List Oper}{d:Option Nat}{t:TypeId}{a x:Operand}{ty:TypeId}{pos:String}{af:Array Edge}{e:Env}{s:List Obj}{K:Env→List Obj→Prop} :
  fN P N full bars fs i (⟨d,.store t a x,ty,pos,af,none⟩::rest) e s K=(ep N d∧eW P bars fs i ⟨d,.store t a x,ty,pos,af,none⟩ e s (fz P N full bars fs (i+1) rest e d K)):=(rfl)
theorem tt {P:Program}{N:Nat}{full:List Oper}{bars:List Nat}{fs:cN}{i:Nat}{rest:List Oper}{d:Option Nat}{x:Operand}{ty:TypeId}{pos:String}{af:Array Edge}{e:Env}{s:List Obj}{K:Env→List Obj→Prop} :
  fN P N full bars fs i (⟨d,.nilCheck x,ty,pos,af,none⟩::rest) e s K=(ep N d∧eW P bars fs i ⟨d,.nilCheck x,ty,pos,af,none⟩ e s (fz P N full bars fs (i+1) rest e d K)):=(rfl)
theorem tv {P:Program}{N:Nat}{full:List Oper}{bars:List Nat}{fs:cN}{i:Nat}{rest:List Oper}{d:Option Nat}{op:BinOp}{t t':TypeId}{x y:Operand}{ty:TypeId}{pos:String}{af:Array Edge}{e:Env}{s:List Obj}{K:Env→List Obj→Prop} :
  fN P N full bars fs i (⟨d,.binOp op t x y t',ty,pos,af,none⟩::rest) e s K=(ep N d∧eW P bars fs i ⟨d,.binOp op t x y t',ty,pos,af,none⟩ e s (fz P N full bars fs (i+1) rest e d K)):=(rfl)
theorem pU {P:Program}{N:Nat}{full:List Oper}{bars:List Nat}{fs:cN}{i:Nat}{rest:List Oper}{d:Option Nat}{op:UnOp}{t:TypeId}{x:Operand}{ty:TypeId}{pos:String}{af:Array Edge}{e:Env}{s:List Obj}{K:Env→List Obj→Prop} :
  fN P N full bars fs i (⟨d,.unOp op t x,ty,pos,af,none⟩::rest) e s K=(ep N d∧eW P bars fs i ⟨d,.unOp op t x,ty,pos,af,none⟩ e s (fz P N full bars fs (i+1) rest e d K)):=(rfl)
theorem lr {P:Program}{N:Nat}{full:List Oper}{bars:List Nat}{fs:cN}{i:Nat}{rest:List Oper}{d:Option Nat}{a b:TypeId}{x:Operand}{ty:TypeId}{pos:String}{af:Array Edge}{e:Env}{s:List Obj}{K:Env→List Obj→Prop} :
  fN P N full bars fs i (⟨d,.convert a b x,ty,pos,af,none⟩::rest) e s K=(ep N d∧eW P bars fs i ⟨d,.convert a b x,ty,pos,af,none⟩ e s (fz P N full bars fs (i+1) rest e d K)):=(rfl)
theorem kb {P:Program}{N:Nat}{full:List Oper}{bars:List Nat}{fs:cN}{i:Nat}{rest:List Oper}{d:Option Nat}{fn:Fn}{first ai:Array Operand}{ty:TypeId}{pos:String}{af:Array Edge}{e:Env}{s:List Obj}{K:Env→List Obj→Prop} :
  fN P N full bars fs i (⟨d,.makeFunc fn first ai,ty,pos,af,none⟩::rest) e s K=(ep N d∧eW P bars fs i ⟨d,.makeFunc fn first ai,ty,pos,af,none⟩ e s (fz P N full bars fs (i+1) rest e d K)):=(rfl)
theorem jn {P:Program}{N:Nat}{full:List Oper}{bars:List Nat}{fs:cN}{i:Nat}{rest:List Oper}{d:Option Nat}{t:TypeId}{l c:Operand}{ty:TypeId}{pos:String}{af:Array Edge}{e:Env}{s:List Obj}{K:Env→List Obj→Prop} :
  fN P N full bars fs i (⟨d,.makeSlice t l c,ty,pos,af,none⟩::rest) e s K=(ep N d∧eW P bars fs i ⟨d,.makeSlice t l c,ty,pos,af,none⟩ e s (fz P N full bars fs (i+1) rest e d K)):=(rfl)
theorem oz {P:Program}{N:Nat}{full:List Oper}{bars:List Nat}{fs:cN}{i:Nat}{rest:List Oper}{d:Option Nat}{t:TypeId}{x:Operand}{lo hi mx:Option Operand}{ty:TypeId}{pos:String}{af:Array Edge}{e:Env}{s:List Obj}{K:Env→List Obj→Prop} :
  fN P N full bars fs i (⟨d,.slice t x lo hi mx,ty,pos,af,none⟩::rest) e s K=(ep N d∧eW P bars fs i ⟨d,.slice t x lo hi mx,ty,pos,af,none⟩ e s (fz P N full bars fs (i+1) rest e d K)):=(rfl)
theorem jk {P:Program}{N:Nat}{full:List Oper}{bars:List Nat}{fs:cN}{i:Nat}{rest:List Oper}{d:Option Nat}{t:TypeId}{x:Operand}{f:Nat}{ty:TypeId}{pos:String}{af:Array Edge}{e:Env}{s:List Obj}{K:Env→List Obj→Prop} :
  fN P N full bars fs i (⟨d,.fieldAddr t x f,ty,pos,af,none⟩::rest) e s K=(ep N d∧eW P bars fs i ⟨d,.fieldAddr t x f,ty,pos,af,none⟩ e s (fz P N full bars fs (i+1) rest e d K)):=(rfl)
theorem nQ {P:Program}{N:Nat}{full:List Oper}{bars:List Nat}{fs:cN}{i:Nat}{rest:List Oper}{d:Option Nat}{t:TypeId}{x:Operand}{f:Nat}{ty:TypeId}{pos:String}{af:Array Edge}{e:Env}{s:List Obj}{K:Env→List Obj→Prop} :
  fN P N full bars fs i (⟨d,.field t x f,ty,pos,af,none⟩::rest) e s K=(ep N d∧eW P bars fs i ⟨d,.field t x f,ty,pos,af,none⟩ e s (fz P N full bars fs (i+1) rest e d K)):=(rfl)
theorem jA {P:Program}{N:Nat}{full:List Oper}{bars:List Nat}{fs:cN}{i:Nat}{rest:List Oper}{d:Option Nat}{t:TypeId}{x i':Operand}{ty:TypeId}{pos:String}{af:Array Edge}{e:Env}{s:List Obj}{K:Env→List Obj→Prop} :
  fN P N full bars fs i (⟨d,.indexAddr t x i',ty,pos,af,none⟩::rest) e s K=(ep N d∧eW P bars fs i ⟨d,.indexAddr t x i',ty,pos,af,none⟩ e s (fz P N full bars fs (i+1) rest e d K)):=(rfl)
theorem nY {P:Program}{N:Nat}{full:List Oper}{bars:List Nat}{fs:cN}{i:Nat}{rest:List Oper}{d:Option Nat}{t:TypeId}{x i':Operand}{ty:TypeId}{pos:String}{af:Array Edge}{e:Env}{s:List Obj}{K:Env→List Obj→Prop} :
  fN P N full bars fs i (⟨d,.index t x i',ty,pos,af,none⟩::rest) e s K=(ep N d∧eW P bars fs i ⟨d,.index t x i',ty,pos,af,none⟩ e s (fz P N full bars fs (i+1) rest e d K)):=(rfl)
theorem lx {P:Program}{N:Nat}{full:List Oper}{bars:List Nat}{fs:cN}{i:Nat}{rest:List Oper}{d:Option Nat}{x:Operand}{i':Nat}{ty:TypeId}{pos:String}{af:Array Edge}{e:Env}{s:List Obj}{K:Env→List Obj→Prop} :
  fN P N full bars fs i (⟨d,.extract x i',ty,pos,af,none⟩::rest) e s K=(ep N d∧eW P bars fs i ⟨d,.extract x i',ty,pos,af,none⟩ e s (fz P N full bars fs (i+1) rest e d K)):=(rfl)
theorem ql {P:Program}{N:Nat}{full:List Oper}{bars:List Nat}{fs:cN}{i:Nat}{rest:List Oper}{d:Option Nat}{c:Call}{ty:TypeId}{pos:String}{af:Array Edge}{e:Env}{s:List Obj}{K:Env→List Obj→Prop} :
  fN P N full bars fs i (⟨d,.call c,ty,pos,af,none⟩::rest) e s K=(ep N d∧eW P bars fs i ⟨d,.call c,ty,pos,af,none⟩ e s (fz P N full bars fs (i+1) rest e d K)):=(rfl)
theorem qA {P:Program}{N:Nat}{full:List Oper}{bars:List Nat}{fs:cN}{i:Nat}{rest:List Oper}{d:Option Nat}{c a b:Operand}{ty:TypeId}{pos:String}{af:Array Edge}{e:Env}{s:List Obj}{K:Env→List Obj→Prop} :
  fN P N full bars fs i (⟨d,.pick c a b,ty,pos,af,none⟩::rest) e s K=(ep N d∧bars.contains i=false∧fZ fs i=none∧oR (ev e c) (fz P N full bars fs (i+1) rest e d K (ev e a)) (fz P N full bars fs (i+1) rest e d K (ev e b)) s):=(rfl)
theorem pT {P:Program}{N:Nat}{full:List Oper}{bars:List Nat}{fs:cN}{i:Nat}{rest:List Oper}{d:Option Nat}{op:Op}{ty:TypeId}{pos:String}{af:Array Edge}{g:Nat}{want:Bool}{e:Env}{s:List Obj}{K:Env→List Obj→Prop} :
  fN P N full bars fs i (⟨d,op,ty,pos,af,some (g,want)⟩::rest) e s K=(ep N d∧Bf (jM full g) want (hA P N full bars fs i rest d ⟨d,op,ty,pos,af,some (g,want)⟩ s K) (hB P N full bars fs i rest d s K) e):=(rfl)
def Dm (P:Program) (e0 x:V) (args:List V) (s:List Obj) (K:V→List Obj→Prop):Prop :=
 match yK e0 x with
 |.cl (.func g) first ai=>az P g (first++args++ai) s K
 |_=>False
theorem sQ {P:Program}{e0:V}{g:FuncId}{first ai args:List V}{s:List Obj}{K:V→List Obj→Prop}:Dm P e0 (.cl (.func g) first ai) args s K=az P g (first++args++ai) s K:=(rfl)
theorem FM {P:Program}{e0:V}{g:FuncId}{first ai:List D}{args:List V}{s:List Obj}{K:V→List Obj→Prop}:Dm P e0 (.d (.cl (.func g) first ai)) args s K=az P g (dO.go e0 first++args++dO.go e0 ai) s K:=by
 unfold Dm yK
 simp only[dO]
theorem Gw {e0:V}{fn:Fn}{first ai:List V}:yK e0 (.cl fn first ai)=.cl fn first ai:=(rfl)
theorem K3 {e0:V}{fn:Fn}{first ai:List D}:yK e0 (.d (.cl fn first ai))=.cl fn (dO.go e0 first) (dO.go e0 ai):=by
 unfold yK
 simp only[dO]
theorem JJ {e0:V}{fn:Fn}:yK e0 (.d (.sc (.func fn ⟨[]⟩ ⟨[]⟩)))=.cl fn [] []:=(rfl)
theorem CT {id g i off b a:Nat}:Dq (.pp id g i off b a) b a=.pp id g i off b a:=by simp [Dq]
theorem z9 {e0:V}{b a:Nat}:dO e0 (.sc (.pointer (some ⟨b,a,none⟩)))=Dq e0 b a:=by simp only[dO]
theorem zw {e0:V}{k:IntKind}{n:Int}:dO e0 (.sc (.int k n))=.d (.sc (.int k n)):=by simp only[dO]
theorem xG {e0:V}{b:Bool}:dO e0 (.sc (.bool b))=.d (.sc (.bool b)):=by simp only[dO]
theorem Ac {e0:V}:dO e0 (.sc (.pointer none))=.d (.sc (.pointer none)):=by simp only[dO]
theorem BI {e0:V}{aL:List (List D)}:dO e0 (.sl aL)=.d (.sl aL):=by simp only[dO]
theorem y9 {e0:V}{x:D}:dO e0 (.el [x])=.bx (dO e0 x):=by simp only[dO]
theorem zh {e0:V}{x y:D}{l:List D}:dO e0 (.el (x::y::l))=.d (.el (x::y::l)):=by simp only[dO]
theorem Bp {e0:V}{fn:Fn}{first ai:List D}:dO e0 (.cl fn first ai)=.cl fn (dO.go e0 first) (dO.go e0 ai):=by simp only[dO]
theorem y7 {e0:V}:dO.go e0 []=[]:=(rfl)
theorem xy {e0:V}{x:D}{l:List D}:dO.go e0 (x::l)=dO e0 x::dO.go e0 l:=(rfl)
theorem Gc {P:Program}{e0:V}{g:FuncId}{args:List V}{s:List Obj}{K:V→List Obj→Prop}:Dm P e0 (.d (.sc (.func (.func g) ⟨[]⟩ ⟨[]⟩))) args s K=az P g ([]++args++[]) s K:=(rfl)
section
variable {P:Program}{d:Option Nat}{ty:TypeId}{pos:String}{af:Array Edge}{g:Option (Nat×Bool)}{e:Nat→V}{s:List Obj}{K:V→List Obj→Prop}
theorem te {x:Operand}:db P ⟨d,.move x,ty,pos,af,g⟩ e s K=(K (ev e x) s):=(rfl)
theorem oq {x:Operand}:db P ⟨d,.assign x,ty,pos,af,g⟩ e s K=(K (ev e x) s):=(rfl)
theorem tw {c a b:Operand}:db P ⟨d,.pick c a b,ty,pos,af,g⟩ e s K=(oR (ev e c) (K (ev e a)) (K (ev e b)) s):=(rfl)
theorem pW {t:TypeId}:db P ⟨d,.alloc t,ty,pos,af,g⟩ e s K=(mK P t s K):=(rfl)
theorem wB {t:TypeId}{x:Operand}:db P ⟨d,.box t x,ty,pos,af,g⟩ e s K=(vp s (ev e x) K):=(rfl)
theorem qd {t:TypeId}{parts:Array (Nat×Operand)}:db P ⟨d,.build t parts,ty,pos,af,g⟩ e s K=(mL P t (parts.toList.map fun p=>(p.1,ev e p.2)) (ym K s)):=(rfl)
theorem jD {t:TypeId}{n:Nat}{parts:Array (Nat×Operand)}:db P ⟨d,.buildSlice t n parts,ty,pos,af,g⟩ e s K=(eC P t n (parts.toList.map fun p=>(p.1,ev e p.2)) s K):=(rfl)
theorem CC {e0:V}{cs:List D}:sL e0 (.d (.el cs))=.d (.el cs):=(rfl)
theorem C0 {e0:V}{id g i off:Nat}:sL e0 (.rf id g i off)=.rf id g i off:=(rfl)
theorem Dx {e0:V}{id g i off b a:Nat}:sL e0 (.pp id g i off b a)=.pp id g i off b a:=(rfl)
theorem zS {e0:V}{b a:Nat}:sL e0 (.d (.sc (.pointer (some ⟨b,a,none⟩))))=xt e0 b a:=(rfl)
theorem F9 {id g i off b a:Nat}:xt (.pp id g i off b a) b a=.rf id g i off:=by simp [xt]
theorem zk {id g i off b a k:Nat}:xt (.pp id g i off b a) b (a+k)=.rf id g i (off+k):=by simp [xt]
theorem sK {t:TypeId}{a:Operand}:db P ⟨d,.load t a,ty,pos,af,g⟩ e s K=(jH P t s (sL (e 0) (ev e a)) (ym K s)):=(rfl)
theorem qu {t:TypeId}{a x:Operand}:db P ⟨d,.store t a x,ty,pos,af,g⟩ e s K=(gm P t s (ev e a) (ev e x) (QQ K)):=(rfl)
theorem v8 {x:Operand}:db P ⟨d,.nilCheck x,ty,pos,af,g⟩ e s K=(ir s (ev e x) (ym K s)):=(rfl)
theorem tc {op:BinOp}{t t':TypeId}{x:Operand}{y:Nat}:db P ⟨d,.binOp op t x (.tmp y) t',ty,pos,af,g⟩ e s K=(mP P op t s (ev e x) (ev e (.tmp y)) (ym K s)):=(rfl)
theorem sW {op:BinOp}{t t':TypeId}{x:Operand}{k:IntKind}{y:Int}:db P ⟨d,.binOp op t x (.const (.int k y)) t',ty,pos,af,g⟩ e s K=(mP P op t s (ev e x) (ev e (.const (.int k y))) (ym K s)):=(rfl)
theorem sT {op:BinOp}{t t':TypeId}{x:Operand}{y:Bool}:db P ⟨d,.binOp op t x (.const (.bool y)) t',ty,pos,af,g⟩ e s K=(mP P op t s (ev e x) (ev e (.const (.bool y))) (ym K s)):=(rfl)
theorem sD {op:BinOp}{t t':TypeId}{x:Operand}{y:Option Addr}:db P ⟨d,.binOp op t x (.const (.pointer y)) t',ty,pos,af,g⟩ e s K=(mP P op t s (ev e x) (ev e (.const (.pointer y))) (ym K s)):=(rfl)
theorem sR {op:BinOp}{t t':TypeId}{x:Operand}:db P ⟨d,.binOp op t x (.const (.slice none 0 0)) t',ty,pos,af,g⟩ e s K=(ef P op t s (ev e x) (ym K s)):=(rfl)
theorem sN {op:UnOp}{t:TypeId}{x:Operand}:db P ⟨d,.unOp op t x,ty,pos,af,g⟩ e s K=(vJ op (ev e x) (ym K s)):=(rfl)
theorem mD {a b:TypeId}{x:Operand}:db P ⟨d,.convert a b x,ty,pos,af,g⟩ e s K=(mU P a b (ev e x) (ym K s)):=(rfl)
theorem kS {fn:Fn}{first ai:Array Operand}:db P ⟨d,.makeFunc fn first ai,ty,pos,af,g⟩ e s K=(K (.cl fn (first.toList.map (ev e)) (ai.toList.map (ev e))) s):=(rfl)
theorem jW {t:TypeId}{l c:Operand}:db P ⟨d,.makeSlice t l c,ty,pos,af,g⟩ e s K=(fx P t (ev e l) (ev e c) s K):=(rfl)
theorem qj {t:TypeId}{x:Operand}{lo hi mx:Option Operand}:db P ⟨d,.slice t x lo hi mx,ty,pos,af,g⟩ e s K=(jq P t (ev e x) (lo.map (ev e)) (hi.map (ev e)) (mx.map (ev e)) s (ym K s)):=(rfl)
theorem jV {t:TypeId}{x:Operand}{f:Nat}:db P ⟨d,.fieldAddr t x f,ty,pos,af,g⟩ e s K=(eG P t s (ev e x) f (ym K s)):=(rfl)
theorem qi {t:TypeId}{x:Operand}{f:Nat}:db P ⟨d,.field t x f,ty,pos,af,g⟩ e s K=(ke P t (ev e x) f (ym K s)):=(rfl)
theorem ka {t:TypeId}{x i:Operand}:db P ⟨d,.indexAddr t x i,ty,pos,af,g⟩ e s K=(dP P t s (ev e x) (ev e i) (ym K s)):=(rfl)
theorem mA {t:TypeId}{r:Option Operand}:db P ⟨d,.makeMap t r,ty,pos,af,g⟩ e s K=(lz P t r s K):=(rfl)
theorem nV {t:TypeId}{x i:Operand}:db P ⟨d,.lookup t x i false,ty,pos,af,g⟩ e s K=(gZ P t s (ev e x) (ev e i) (ym K s)):=(rfl)
theorem jX {t:TypeId}{m k x:Operand}:db P ⟨d,.mapUpdate t m k x,ty,pos,af,g⟩ e s K=(rB P t s (ev e m) (ev e k) (ev e x) (QQ K)):=(rfl)
theorem oa {t:TypeId}{m k x:Operand}:db P ⟨d,.insert t m k x,ty,pos,af,g⟩ e s K=(rB P t s (ev e m) (ev e k) (ev e x) (QQ K)):=(rfl)
theorem qx {t:TypeId}{x i:Operand}:db P ⟨d,.index t x i,ty,pos,af,g⟩ e s K=(iO P t (ev e x) (ev e i) (ym K s)):=(rfl)
theorem mN {x:Operand}{i:Nat}:db P ⟨d,.extract x i,ty,pos,af,g⟩ e s K=(s7 (ev e x) i (ym K s)):=(rfl)
theorem sU {f:FuncId}{args:Array Operand}{Bl:Array TypeId}:db P ⟨d,.call ⟨.value (.func f),args,Bl⟩,ty,pos,af,g⟩ e s K=(az P f (args.toList.map (ev e)) s K):=(rfl)
theorem qz {f:Nat}{args:Array Operand}{Bl:Array TypeId}:db P ⟨d,.call ⟨.value (.tmp f),args,Bl⟩,ty,pos,af,g⟩ e s K=(Dm P (e 0) (e f) (args.toList.map (ev e)) s K):=(rfl)
theorem v9 {x:Operand}{t:TypeId}:db P ⟨d,.call ⟨.builtin .len,#[x],#[t]⟩,ty,pos,af,g⟩ e s K=(jB P t (ev e x) s (ym K s)):=(rfl)
theorem oB {a x:Operand}{t t':TypeId}:db P ⟨d,.call ⟨.builtin .append,#[a,x],#[t,t']⟩,ty,pos,af,g⟩ e s K=(if t=t' then dD P t (ev e a) (ev e x) s K else jg P t t' (ev e a) (ev e x) s K):=(rfl)
theorem sO {a x:Operand}{t t':TypeId}:db P ⟨d,.call ⟨.builtin .copy,#[a,x],#[t,t']⟩,ty,pos,af,g⟩ e s K=(t=t'∧oW P t (ev e a) (ev e x) s K):=(rfl)
theorem qv {x:Operand}{t:TypeId}:db P ⟨d,.call ⟨.builtin .clear,#[x],#[t]⟩,ty,pos,af,g⟩ e s K=(kW P t (ev e x) s K):=(rfl)
theorem wD {x y:Operand}{Bl:Array TypeId}:db P ⟨d,.call ⟨.builtin .min,#[x,y],Bl⟩,ty,pos,af,g⟩ e s K=(eU true (ev e x) [ev e y] (ym K s)):=(rfl)
theorem vU {x y:Operand}{Bl:Array TypeId}:db P ⟨d,.call ⟨.builtin .max,#[x,y],Bl⟩,ty,pos,af,g⟩ e s K=(eU false (ev e x) [ev e y] (ym K s)):=(rfl)
end
theorem qs {cs:List V}:eA (.ag cs)=some cs:=(rfl)
theorem s5 {x:D}:eA (.d x)=some [.d x]:=(rfl)
theorem qw {aL:List (List D)}:eA (.fu aL)=some [.fu aL]:=(rfl)
theorem qE {id g lo n:Nat}:eA (.so id g lo n)=some [.so id g lo n]:=(rfl)
theorem qf {id g i off:Nat}:eA (.rf id g i off)=some [.rf id g i off]:=(rfl)
theorem qO {fn:Fn}{a b:List V}:eA (.cl fn a b)=some [.cl fn a b]:=(rfl)
theorem tl {P:Program}{f:FuncId} (k:Nat) {cargs args:List V}{s:List Obj}{o o':Obj}{r r':V}{K:V→List Obj→Prop} (h:az P f cargs [o] fun v s'=>v=r∧s'=[o']) (ha:args=cargs.map (bu [k])) (rn:ar.go 1 cargs=true)
  (hoo:cP 1 o=true) (ho:s[k]?=some (ct [k] o)) (hr:bu [k] r=r') (hk:K r' (s.set k (ct [k] o'))):az P f args s K:=by
 refine rN h [k] rfl (by simp) (fun j ob hj=>?_) ha rn (by simp [hoo]) fun v s' hv=>?_
 ·cases j with
  |zero=>simp at hj;subst hj;simpa using ho
  |succ j=>simp at hj
 ·obtain⟨rfl,rfl⟩:=hv
  refine⟨rfl,?_⟩
  rw[hr]
  simpa [bm]using hk
def iH (cc:List Nat) (e:Env):Env:=fun t=>if cc.contains t then e t else .any
theorem fP {cc:List Nat}{e:Env}{t:Nat}:iH cc e t=if cc.contains t then e t else .any:=(rfl)
theorem dt.cut {L:Nat}{e:Env}{s s':List Obj} (cL:Nat) (hL:L≤cL) (hs:s.take cL=s') (ho:s'.all (cP cL)=true) (cc:List Nat) (hk:cc.all (fun t=>ar cL (e t))=true):dt L e s (iH cc e) s':=by
 subst hs
 intro σ0 s0 w0 σ w N a eB hE hI hR
 refine⟨σ,hE.take (by omega),hI.take ho,hR.1,hR.2.1,fun t=>?_⟩
 unfold iH
 split
 ·rename_i ht
  rw[VT]at hk
  exact(hR.2.2 t).take (hk t (by simpa using ht))
 ·exact .any
theorem Rg:type_of% (
 And.intro @my <|
 And.intro @jZ <|
 And.intro @mu <|
 And.intro @oG <|
 And.intro @nM <|
 And.intro @kR <|
 And.intro @mz <|
 And.intro @nU <|
 And.intro @qg <|
 And.intro @qD <|
 And.intro @qb <|
 And.intro @Ay <|
 And.intro @AP <|
 And.intro @Aq <|
 And.intro @Aw <|
 And.intro @me <|
 And.intro @qG <|
 And.intro @qe <|
 And.intro @qU <|
 And.intro @qp <|
 And.intro @qT <|
 And.intro @uR <|
 And.intro @tI <|
 And.intro @rY <|
 And.intro @rR <|
 And.intro @ot <|
 And.intro @mg <|
 And.intro @tP <|
 And.intro @qM <|
 And.intro @oD <|
 And.intro @mq <|
 And.intro @zV <|
 And.intro @qo <|
 And.intro @wy <|
 And.intro @wu <|
 And.intro @sQ <|
 And.intro @tk <|
 And.intro @AV <|
 And.intro @mh <|
 And.intro @sA <|
 And.intro @qF <|
 And.intro @mB <|
 And.intro @tm <|
 And.intro @qy <|
 And.intro @sV <|
 And.intro @qh <|
 And.intro @mj <|
 And.intro @nK <|
 And.intro @sr <|
 And.intro @n7 <|
 And.intro @iN <|
 And.intro @qI <|
 And.intro @lf <|
 And.intro @mO <|
 And.intro @jo <|
 And.intro @oy <|
 And.intro @tt <|
 And.intro @tv <|
 And.intro @pU <|
 And.intro @lr <|
 And.intro @kb <|
 And.intro @jn <|
 And.intro @oz <|
 And.intro @jk <|
 And.intro @nQ <|
 And.intro @jA <|
 And.intro @nY <|
 And.intro @lx <|
 And.intro @ql <|
 And.intro @qA <|
 And.intro @pT <|
 And.intro @qR <|
 And.intro @qn <|
 And.intro @te <|
 And.intro @oq <|
 And.intro @tw <|
 And.intro @pW <|
 And.intro @wB <|
 And.intro @qd <|
 And.intro @jD <|
 And.intro @sK <|
 And.intro @mA <|
 And.intro @nV <|
 And.intro @jX <|
 And.intro @oa <|
 And.intro @qu <|
 And.intro @v8 <|
 And.intro @tc <|
 And.intro @sW <|
 And.intro @sT <|
 And.intro @sD <|
 And.intro @sR <|
 And.intro @s6 <|
 And.intro @sN <|
 And.intro @mD <|
 And.intro @kS <|
 And.intro @jW <|
 And.intro @qj <|
 And.intro @jV <|
 And.intro @qi <|
 And.intro @ka <|
 And.intro @qx <|
 And.intro @mN <|
 And.intro @sU <|
 And.intro @qz <|
 And.intro @v9 <|
 And.intro @oB <|
 And.intro @sO <|
 And.intro @qv <|
 And.intro @wD <|
 And.intro @vU <|
 And.intro @sI <|
 And.intro @lC <|
 And.intro @jR <|
 And.intro @bg <|
 And.intro @qs <|
 And.intro @s5 <|
 And.intro @qw <|
 And.intro @qE <|
 And.intro @qf <|
 And.intro @qO <|
 And.intro @true_and <|
 And.intro @and_true <|
 And.intro @true_or <|
 And.intro @or_true <|
 And.intro @Bool.not_true <|
 And.intro @Bool.not_false <|
 And.intro @false_or <|
 And.intro @or_false <|
 And.intro @decide_eq_true_eq <|
 And.intro @true_imp_iff <|
 And.intro @false_imp_iff <|
 And.intro @not_true_eq_false <|
 And.intro @not_false_eq_true <|
 And.intro @decide_eq_false_iff_not <|
 And.intro @Bool.and_self <|
 And.intro @Bool.or_false <|
 And.intro @Bool.false_or <|
 And.intro @Bool.or_true <|
 And.intro @Bool.true_or <|
 And.intro @Bool.and_true <|
 And.intro @Bool.true_and <|
 And.intro @Int.toNat_natCast <|
 And.intro @Int.ofNat_lt <|
 And.intro @Int.natCast_nonneg <|
 And.intro @decide_true <|
 And.intro @decide_false <|
 And.intro @V.d.injEq <|
 And.intro @D.sc.injEq <|
 And.intro @Go.Value.int.injEq <|
 @Go.Value.bool.injEq) :=
 And.intro @my <|
 And.intro @jZ <|
 And.intro @mu <|
 And.intro @oG <|
 And.intro @nM <|
 And.intro @kR <|
 And.intro @mz <|
 And.intro @nU <|
 And.intro @qg <|
 And.intro @qD <|
 And.intro @qb <|
 And.intro @Ay <|
 And.intro @AP <|
 And.intro @Aq <|
 And.intro @Aw <|
 And.intro @me <|
 And.intro @qG <|
 And.intro @qe <|
 And.intro @qU <|
 And.intro @qp <|
 And.intro @qT <|
 And.intro @uR <|
 And.intro @tI <|
 And.intro @rY <|
 And.intro @rR <|
 And.intro @ot <|
 And.intro @mg <|
 And.intro @tP <|
 And.intro @qM <|
 And.intro @oD <|
 And.intro @mq <|
 And.intro @zV <|
 And.intro @qo <|
 And.intro @wy <|
 And.intro @wu <|
 And.intro @sQ <|
 And.intro @tk <|
 And.intro @AV <|
 And.intro @mh <|
 And.intro @sA <|
 And.intro @qF <|
 And.intro @mB <|
 And.intro @tm <|
 And.intro @qy <|
 And.intro @sV <|
 And.intro @qh <|
 And.intro @mj <|
 And.intro @nK <|
 And.intro @sr <|
 And.intro @n7 <|
 And.intro @iN <|
 And.intro @qI <|
 And.intro @lf <|
 And.intro @mO <|
 And.intro @jo <|
 And.intro @oy <|
 And.intro @tt <|
 And.intro @tv <|
 And.intro @pU <|
 And.intro @lr <|
 And.intro @kb <|
 And.intro @jn <|
 And.intro @oz <|
 And.intro @jk <|
 And.intro @nQ <|
 And.intro @jA <|
 And.intro @nY <|
 And.intro @lx <|
 And.intro @ql <|
 And.intro @qA <|
 And.intro @pT <|
 And.intro @qR <|
 And.intro @qn <|
 And.intro @te <|
 And.intro @oq <|
 And.intro @tw <|
 And.intro @pW <|
 And.intro @wB <|
 And.intro @qd <|
 And.intro @jD <|
 And.intro @sK <|
 And.intro @mA <|
 And.intro @nV <|
 And.intro @jX <|
 And.intro @oa <|
 And.intro @qu <|
 And.intro @v8 <|
 And.intro @tc <|
 And.intro @sW <|
 And.intro @sT <|
 And.intro @sD <|
 And.intro @sR <|
 And.intro @s6 <|
 And.intro @sN <|
 And.intro @mD <|
 And.intro @kS <|
 And.intro @jW <|
 And.intro @qj <|
 And.intro @jV <|
 And.intro @qi <|
 And.intro @ka <|
 And.intro @qx <|
 And.intro @mN <|
 And.intro @sU <|
 And.intro @qz <|
 And.intro @v9 <|
 And.intro @oB <|
 And.intro @sO <|
 And.intro @qv <|
 And.intro @wD <|
 And.intro @vU <|
 And.intro @sI <|
 And.intro @lC <|
 And.intro @jR <|
 And.intro @bg <|
 And.intro @qs <|
 And.intro @s5 <|
 And.intro @qw <|
 And.intro @qE <|
 And.intro @qf <|
 And.intro @qO <|
 And.intro @true_and <|
 And.intro @and_true <|
 And.intro @true_or <|
 And.intro @or_true <|
 And.intro @Bool.not_true <|
 And.intro @Bool.not_false <|
 And.intro @false_or <|
 And.intro @or_false <|
 And.intro @decide_eq_true_eq <|
 And.intro @true_imp_iff <|
 And.intro @false_imp_iff <|
 And.intro @not_true_eq_false <|
 And.intro @not_false_eq_true <|
 And.intro @decide_eq_false_iff_not <|
 And.intro @Bool.and_self <|
 And.intro @Bool.or_false <|
 And.intro @Bool.false_or <|
 And.intro @Bool.or_true <|
 And.intro @Bool.true_or <|
 And.intro @Bool.and_true <|
 And.intro @Bool.true_and <|
 And.intro @Int.toNat_natCast <|
 And.intro @Int.ofNat_lt <|
 And.intro @Int.natCast_nonneg <|
 And.intro @decide_true <|
 And.intro @decide_false <|
 And.intro @V.d.injEq <|
 And.intro @D.sc.injEq <|
 And.intro @Go.Value.int.injEq <|
 @Go.Value.bool.injEq
theorem jz {α β:Type}{A B:α→β→Prop}{e:α}{s:β}{p:Prop} [Decidable p] (h:p→A e s) (k:¬p→B e s):lY (.d (.sc (.bool (decide p)))) A B e s:=by
 rw[tP];exact⟨h,k⟩
theorem gr {α β:Type}{A B:α→β→Prop}{e:α}{s:β}{b:Bool} (h:b=true→A e s) (k:b=false→B e s):lY (.d (.sc (.bool b))) A B e s:=by
 rw[GW];exact⟨h,k⟩
theorem dX {d:Nat}{A B:Env→Prop}{e:Env}{p:Prop} [Decidable p] (h:p→A (cu e d (.d (.sc (.bool true))))) (k:¬p→B (cu e d (.d (.sc (.bool false))))):eJ (.d (.sc (.bool (decide p)))) d true A B e:=by
 rw[uR];exact⟨h,k⟩
theorem dW {d:Nat}{A B:Env→Prop}{e:Env}{p:Prop} [Decidable p] (h:p→B (cu e d (.d (.sc (.bool true))))) (k:¬p→A (cu e d (.d (.sc (.bool false))))):eJ (.d (.sc (.bool (decide p)))) d false A B e:=by
 rw[tI];exact⟨h,k⟩
theorem dr {d:Nat}{A B:Env→Prop}{e:Env}{p:Prop} [Decidable p] (h:p→B (cu e d (.d (.sc (.bool false))))) (k:¬p→A (cu e d (.d (.sc (.bool true))))):eJ (.d (.sc (.bool (!decide p)))) d true A B e:=by
 rw[rY];exact⟨h,k⟩
theorem dp {d:Nat}{A B:Env→Prop}{e:Env}{p:Prop} [Decidable p] (h:p→A (cu e d (.d (.sc (.bool false))))) (k:¬p→B (cu e d (.d (.sc (.bool true))))):eJ (.d (.sc (.bool (!decide p)))) d false A B e:=by
 rw[rR];exact⟨h,k⟩
theorem dS {d:Nat}{w:Bool}{A B:Env→Prop}{e:Env}{b:Bool} (h:b=true→eJ (.d (.sc (.bool true))) d w A B e) (k:b=false→eJ (.d (.sc (.bool false))) d w A B e):eJ (.d (.sc (.bool b))) d w A B e:=by
 cases b
 ·exact k rfl
 ·exact h rfl
theorem BO {α:Type}{x:α}:(some x).toArray.toList=[x]:=(rfl)
theorem DB {α:Type}:(none:Option α).toArray.toList=[]:=(rfl)
theorem sm {f:Operand→V}:Option.map f none=none:=(rfl)
theorem zN {d:Int}:vQ none d=some d:=(rfl)
theorem CJ {k:IntKind}{n d:Int}:vQ (some (.d (.sc (.int k n)))) d=some n:=(rfl)
theorem Bo:type_of% (
 And.intro @BO <|
 And.intro @DB <|
 And.intro @zN <|
 And.intro @CJ <|
 And.intro @sm <|
 And.intro @my <|
 And.intro @jZ <|
 And.intro @mu <|
 And.intro @oG <|
 And.intro @nM <|
 And.intro @kR <|
 And.intro @mz <|
 And.intro @nU <|
 And.intro @qg <|
 And.intro @qD <|
 And.intro @qb <|
 And.intro @Ay <|
 And.intro @AP <|
 And.intro @Aq <|
 And.intro @Aw <|
 And.intro @me <|
 And.intro @qG <|
 And.intro @qe <|
 And.intro @qU <|
 And.intro @qp <|
 And.intro @qT <|
 And.intro @ot <|
 And.intro @mg <|
 And.intro @qM <|
 And.intro @oD <|
 And.intro @mq <|
 And.intro @qo <|
 And.intro @wy <|
 And.intro @wu <|
 And.intro @sQ <|
 And.intro @tk <|
 And.intro @AV <|
 And.intro @mh <|
 And.intro @sA <|
 And.intro @qF <|
 And.intro @mB <|
 And.intro @tm <|
 And.intro @qy <|
 And.intro @sV <|
 And.intro @qh <|
 And.intro @mj <|
 And.intro @nK <|
 And.intro @sr <|
 And.intro @n7 <|
 And.intro @iN <|
 And.intro @qI <|
 And.intro @lf <|
 And.intro @mO <|
 And.intro @jo <|
 And.intro @oy <|
 And.intro @tt <|
 And.intro @tv <|
 And.intro @pU <|
 And.intro @lr <|
 And.intro @kb <|
 And.intro @jn <|
 And.intro @oz <|
 And.intro @jk <|
 And.intro @nQ <|
 And.intro @jA <|
 And.intro @nY <|
 And.intro @lx <|
 And.intro @ql <|
 And.intro @qA <|
 And.intro @pT <|
 And.intro @qR <|
 And.intro @qn <|
 And.intro @te <|
 And.intro @oq <|
 And.intro @tw <|
 And.intro @pW <|
 And.intro @wB <|
 And.intro @qd <|
 And.intro @jD <|
 And.intro @sK <|
 And.intro @mA <|
 And.intro @nV <|
 And.intro @jX <|
 And.intro @oa <|
 And.intro @qu <|
 And.intro @v8 <|
 And.intro @tc <|
 And.intro @sW <|
 And.intro @sT <|
 And.intro @sD <|
 And.intro @sR <|
 And.intro @s6 <|
 And.intro @sN <|
 And.intro @mD <|
 And.intro @kS <|
 And.intro @jW <|
 And.intro @qj <|
 And.intro @jV <|
 And.intro @qi <|
 And.intro @ka <|
 And.intro @qx <|
 And.intro @mN <|
 And.intro @sU <|
 And.intro @qz <|
 And.intro @v9 <|
 And.intro @oB <|
 And.intro @sO <|
 And.intro @qv <|
 And.intro @wD <|
 And.intro @vU <|
 And.intro @sI <|
 And.intro @lC <|
 And.intro @jR <|
 And.intro @bg <|
 And.intro @qs <|
 And.intro @s5 <|
 And.intro @qw <|
 And.intro @qE <|
 And.intro @qf <|
 And.intro @qO <|
 And.intro @true_and <|
 And.intro @and_true <|
 And.intro @true_or <|
 And.intro @or_true <|
 And.intro @Bool.not_true <|
 And.intro @Bool.not_false <|
 And.intro @false_or <|
 And.intro @or_false <|
 And.intro @decide_eq_true_eq <|
 And.intro @true_imp_iff <|
 And.intro @false_imp_iff <|
 And.intro @not_true_eq_false <|
 And.intro @not_false_eq_true <|
 And.intro @decide_eq_false_iff_not <|
 And.intro @Bool.and_self <|
 And.intro @Bool.or_false <|
 And.intro @Bool.false_or <|
 And.intro @Bool.or_true <|
 And.intro @Bool.true_or <|
 And.intro @Bool.and_true <|
 And.intro @Bool.true_and <|
 And.intro @Int.toNat_natCast <|
 And.intro @Int.ofNat_lt <|
 And.intro @Int.natCast_nonneg <|
 And.intro @decide_true <|
 And.intro @decide_false <|
 And.intro @V.d.injEq <|
 And.intro @D.sc.injEq <|
 And.intro @Go.Value.int.injEq <|
 @Go.Value.bool.injEq) :=
 And.intro @BO <|
 And.intro @DB <|
 And.intro @zN <|
 And.intro @CJ <|
 And.intro @sm <|
 And.intro @my <|
 And.intro @jZ <|
 And.intro @mu <|
 And.intro @oG <|
 And.intro @nM <|
 And.intro @kR <|
 And.intro @mz <|
 And.intro @nU <|
 And.intro @qg <|
 And.intro @qD <|
 And.intro @qb <|
 And.intro @Ay <|
 And.intro @AP <|
 And.intro @Aq <|
 And.intro @Aw <|
 And.intro @me <|
 And.intro @qG <|
 And.intro @qe <|
 And.intro @qU <|
 And.intro @qp <|
 And.intro @qT <|
 And.intro @ot <|
 And.intro @mg <|
 And.intro @qM <|
 And.intro @oD <|
 And.intro @mq <|
 And.intro @qo <|
 And.intro @wy <|
 And.intro @wu <|
 And.intro @sQ <|
 And.intro @tk <|
 And.intro @AV <|
 And.intro @mh <|
 And.intro @sA <|
 And.intro @qF <|
 And.intro @mB <|
 And.intro @tm <|
 And.intro @qy <|
 And.intro @sV <|
 And.intro @qh <|
 And.intro @mj <|
 And.intro @nK <|
 And.intro @sr <|
 And.intro @n7 <|
 And.intro @iN <|
 And.intro @qI <|
 And.intro @lf <|
 And.intro @mO <|
 And.intro @jo <|
 And.intro @oy <|
 And.intro @tt <|
 And.intro @tv <|
 And.intro @pU <|
 And.intro @lr <|
 And.intro @kb <|
 And.intro @jn <|
 And.intro @oz <|
 And.intro @jk <|
 And.intro @nQ <|
 And.intro @jA <|
 And.intro @nY <|
 And.intro @lx <|
 And.intro @ql <|
 And.intro @qA <|
 And.intro @pT <|
 And.intro @qR <|
 And.intro @qn <|
 And.intro @te <|
 And.intro @oq <|
 And.intro @tw <|
 And.intro @pW <|
 And.intro @wB <|
 And.intro @qd <|
 And.intro @jD <|
 And.intro @sK <|
 And.intro @mA <|
 And.intro @nV <|
 And.intro @jX <|
 And.intro @oa <|
 And.intro @qu <|
 And.intro @v8 <|
 And.intro @tc <|
 And.intro @sW <|
 And.intro @sT <|
 And.intro @sD <|
 And.intro @sR <|
 And.intro @s6 <|
 And.intro @sN <|
 And.intro @mD <|
 And.intro @kS <|
 And.intro @jW <|
 And.intro @qj <|
 And.intro @jV <|
 And.intro @qi <|
 And.intro @ka <|
 And.intro @qx <|
 And.intro @mN <|
 And.intro @sU <|
 And.intro @qz <|
 And.intro @v9 <|
 And.intro @oB <|
 And.intro @sO <|
 And.intro @qv <|
 And.intro @wD <|
 And.intro @vU <|
 And.intro @sI <|
 And.intro @lC <|
 And.intro @jR <|
 And.intro @bg <|
 And.intro @qs <|
 And.intro @s5 <|
 And.intro @qw <|
 And.intro @qE <|
 And.intro @qf <|
 And.intro @qO <|
 And.intro @true_and <|
 And.intro @and_true <|
 And.intro @true_or <|
 And.intro @or_true <|
 And.intro @Bool.not_true <|
 And.intro @Bool.not_false <|
 And.intro @false_or <|
 And.intro @or_false <|
 And.intro @decide_eq_true_eq <|
 And.intro @true_imp_iff <|
 And.intro @false_imp_iff <|
 And.intro @not_true_eq_false <|
 And.intro @not_false_eq_true <|
 And.intro @decide_eq_false_iff_not <|
 And.intro @Bool.and_self <|
 And.intro @Bool.or_false <|
 And.intro @Bool.false_or <|
 And.intro @Bool.or_true <|
 And.intro @Bool.true_or <|
 And.intro @Bool.and_true <|
 And.intro @Bool.true_and <|
 And.intro @Int.toNat_natCast <|
 And.intro @Int.ofNat_lt <|
 And.intro @Int.natCast_nonneg <|
 And.intro @decide_true <|
 And.intro @decide_false <|
 And.intro @V.d.injEq <|
 And.intro @D.sc.injEq <|
 And.intro @Go.Value.int.injEq <|
 @Go.Value.bool.injEq
def Acc (base:List Obj) (sz:Nat) (v:V) (s:List Obj) (l:List (List D)):Prop :=
 (v=.fu l∧s=base)∨∃g,v=.so base.length g 0 l.length∧s=base++[⟨g,true,sz,l.map (·.map .d)⟩]
theorem Acc.append {P:Program}{t et:TypeId}{i:IP}{base:List Obj}{sz:Nat}{v:V}{s:List Obj}{l ns:List (List D)}{K:V→List Obj→Prop} (ha:Acc base sz v s l) (ht:iE P t=some (et,i)) (hz:i.sz=sz) (h0:0<sz) (hb:0<i.xN)
  (hl:∀e∈l,e.length=sz) (hn:∀e∈ns,e.length=sz) (gf:0<ns.length) (gH:(l.length+ns.length)*i.xN≤140737488355328) (hk:∀v' s',Acc base sz v' s' (l++ns)→K v' s'):dD P t v (.fu ns) s K:=by
 subst hz
 have LI:∀e∈ns.map (fun (e:List D)=>e.map V.d),e.length=i.sz:=by
  intro e he
  obtain⟨d,hd,rfl⟩:=List.mem_map.1 he
  simpa using hn d hd
 unfold dD
 simp only[ht,gG]
 refine⟨⟨LI,h0,hb⟩,?_⟩
 rcases ha with ⟨rfl,rfl⟩|⟨g,rfl,rfl⟩
 ·simp only
  refine⟨⟨.inr (by simpa using gf),by simpa using gH,hl⟩,?_⟩
  have:=hk (.so s.length 0 0 (l++ns).length) (s++[⟨0,true,i.sz,(l++ns).map (·.map .d)⟩]) (.inr ⟨0,rfl,rfl⟩)
  simpa [WA]using this
 ·simp only[pB]
  rw[VF (VA _),Wv]
  simp only[VQ,true_and]
  refine⟨⟨by simp,by simpa using gH⟩,?_⟩
  have:=hk (.so base.length (g+1) 0 (l++ns).length) (base++[⟨g+1,true,i.sz,(l++ns).map (·.map .d)⟩]) (.inr ⟨g+1,rfl,rfl⟩)
  have he:((l.map (fun (e:List D)=>e.map V.d)).take l.length)=l.map (fun (e:List D)=>e.map V.d):=VZ (by simp)
  simp only[Wx,Vv,he]
  rw[List.set_append_right _ _ (VA _),Wv]
  simpa [WA]using this
theorem y0 (f:V→Option D) (hf:∀x,f (.d x)=some x):∀l:List (List D),((l.map fun c=>c.map V.d).mapM fun (e:List V)=>e.mapM f)=some l
 |[]=>rfl
 |c::l=>by
  have h1:∀c:List D,(c.map V.d).mapM f=some c:=by
   intro c
   induction c with
   |nil=>rfl
   |cons x c ih=>rw[VP,Wz,hf,ih];rfl
  rw[VP,Wz,h1,y0 f hf l];rfl
theorem Acc.QS {base:List Obj}{sz:Nat}{v:V}{s:List Obj}{l:List (List D)}{cL:Nat} (ha:Acc base sz v s l) (h:cL≤base.length):aZ cL s v=some (.d (.sl l)):=by
 rcases ha with ⟨rfl,rfl⟩|⟨g,rfl,rfl⟩
 ·rfl
 ·simp only[aZ,bQ]
  rw[VF (VA _),Wv]
  simp only[VQ,true_and]
  rw[if_pos ⟨by simp,.inl h⟩]
  have he:((l.map (fun (e:List D)=>e.map V.d)).take l.length)=l.map (fun (e:List D)=>e.map V.d):=VZ (by simp)
  rw[Wx,he,y0 _ (fun x=>rfl) l]
  rfl
theorem Acc.get {base:List Obj}{sz:Nat}{v:V}{s:List Obj}{l:List (List D)} (ha:Acc base sz v s l) {id:Nat}{o:Obj} (h:base[id]?=some o):s[id]?=some o:=by
 rcases ha with ⟨rfl,rfl⟩|⟨g,rfl,rfl⟩
 ·exact h
 ·rw[VH (List.getElem?_eq_some_iff.1 h).1];exact h
theorem CF {e:Env}{d t:Nat}{v:V}:cu e d v t=if t=d then v else e t:=(rfl)
theorem yx:type_of% (
 And.intro @eq_self.{1} <|
 And.intro @hole.eq_1 <|
 And.intro @eW.eq_1 <|
 And.intro @jL.eq_1 <|
 And.intro @fZ.eq_1 <|
 And.intro @fZ.eq_2 <|
 And.intro @A9.eq_1 <|
 And.intro @A9.eq_2 <|
 And.intro @AW.eq_1 <|
 And.intro @Lq.eq_1 <|
 And.intro @Ic.eq_1 <|
 And.intro @oE.eq_1 <|
 And.intro @Jl.eq_1 <|
 And.intro @Km.eq_1 <|
 And.intro @Jt.eq_1 <|
 And.intro @fh.eq_1 <|
 And.intro @fh.eq_2 <|
 And.intro @fh.eq_3 <|
 And.intro @fh.eq_4 <|
 And.intro @fh.eq_5 <|
 And.intro @Go.Op.operands.eq_1 <|
 And.intro @Go.Op.operands.eq_2 <|
 And.intro @Go.Op.operands.eq_3 <|
 And.intro @Go.Op.operands.eq_4 <|
 And.intro @Go.Op.operands.eq_5 <|
 And.intro @Go.Op.operands.eq_6 <|
 And.intro @Go.Op.operands.eq_7 <|
 And.intro @Go.Op.operands.eq_8 <|
 And.intro @Go.Op.operands.eq_9 <|
 And.intro @Go.Op.operands.eq_10 <|
 And.intro @Go.Op.operands.eq_11 <|
 And.intro @Go.Op.operands.eq_12 <|
 And.intro @Go.Op.operands.eq_13 <|
 And.intro @Go.Op.operands.eq_14 <|
 And.intro @Go.Op.operands.eq_15 <|
 And.intro @Go.Op.operands.eq_16 <|
 And.intro @Go.Op.operands.eq_17 <|
 And.intro @Go.Op.operands.eq_18 <|
 And.intro @Go.Op.operands.eq_19 <|
 And.intro @Go.Op.operands.eq_20 <|
 And.intro @Go.Op.operands.eq_21 <|
 And.intro @Go.Op.operands.eq_22 <|
 And.intro @Go.Op.operands.eq_23 <|
 And.intro @Go.Op.operands.eq_24 <|
 And.intro @Go.Op.operands.eq_25 <|
 And.intro @Go.Op.operands.eq_26 <|
 And.intro @Go.Op.operands.eq_27 <|
 And.intro @Go.Op.operands.eq_28 <|
 And.intro @Go.Op.operands.eq_29 <|
 And.intro @Go.Op.operands.eq_30 <|
 And.intro @Go.Op.operands.eq_31 <|
 And.intro @Go.Op.operands.eq_32 <|
 And.intro @Go.Op.operands.eq_33 <|
 And.intro @Go.Op.operands.eq_34 <|
 And.intro @Go.Op.operands.eq_35 <|
 And.intro @Go.Op.operands.eq_36 <|
 And.intro @Go.Op.operands.eq_37 <|
 And.intro @Go.Op.operands.eq_38 <|
 And.intro @Go.Op.operands.eq_39 <|
 And.intro @Go.Op.operands.eq_40 <|
 And.intro @Go.Op.operands.eq_41 <|
 And.intro @Go.Op.operands.eq_42 <|
 And.intro @Go.Op.operands.eq_43 <|
 And.intro @Go.Call.operands.eq_1 <|
 And.intro @Array.toList_append.{0} <|
 And.intro @ef.eq_1 <|
 And.intro @ef.eq_2 <|
 And.intro @ef.eq_3 <|
 And.intro @ef.eq_4 <|
 And.intro @ef.eq_5 <|
 And.intro @ef.eq_6 <|
 And.intro @ef.eq_7 <|
 And.intro @vN.eq_1 <|
 And.intro @vN.eq_2 <|
 And.intro @vN.eq_3 <|
 And.intro @jM.eq_1 <|
 And.intro @ep.eq_1 <|
 And.intro @ep.eq_2 <|
 And.intro @gQ.eq_1 <|
 And.intro @gQ.eq_2 <|
 And.intro @CF <|
 And.intro @ev.eq_1 <|
 And.intro @ev.eq_2 <|
 And.intro @ev.eq_3 <|
 And.intro @ev.eq_4 <|
 And.intro @Ng.eq_1 <|
 And.intro @Ng.eq_2 <|
 And.intro @cv.eq_1 <|
 And.intro @cv.eq_2 <|
 And.intro @cv.eq_3 <|
 And.intro @cv.eq_4 <|
 And.intro @mP.eq_1 <|
 And.intro @mf.eq_1 <|
 And.intro @mf.eq_2 <|
 And.intro @mf.eq_3 <|
 And.intro @ov.eq_1 <|
 And.intro @ov.eq_2 <|
 And.intro @dC.eq_1 <|
 And.intro @dC.eq_2 <|
 And.intro @dC.eq_3 <|
 And.intro @dC.eq_4 <|
 And.intro @dC.eq_5 <|
 And.intro @dC.eq_6 <|
 And.intro @dC.eq_7 <|
 And.intro @dC.eq_8 <|
 And.intro @dC.eq_9 <|
 And.intro @dC.eq_10 <|
 And.intro @dC.eq_11 <|
 And.intro @dC.eq_12 <|
 And.intro @eP.eq_1 <|
 And.intro @eP.eq_2 <|
 And.intro @eP.eq_3 <|
 And.intro @eP.eq_4 <|
 And.intro @eP.eq_5 <|
 And.intro @eP.eq_6 <|
 And.intro @eP.eq_7 <|
 And.intro @eP.eq_8 <|
 And.intro @eP.eq_9 <|
 And.intro @eP.eq_10 <|
 And.intro @eP.eq_11 <|
 And.intro @eP.eq_12 <|
 And.intro @eP.eq_13 <|
 And.intro @eP.eq_14 <|
 And.intro @eP.eq_15 <|
 And.intro @vJ.eq_1 <|
 And.intro @vJ.eq_2 <|
 And.intro @vJ.eq_3 <|
 And.intro @ir.eq_1 <|
 And.intro @ir.eq_2 <|
 And.intro @ir.eq_3 <|
 And.intro @ir.eq_4 <|
 And.intro @ir.eq_5 <|
 And.intro @ir.eq_6 <|
 And.intro @xm.eq_1 <|
 And.intro @Bc.eq_1 <|
 And.intro @Bc.eq_2 <|
 And.intro @Ep.eq_1 <|
 And.intro @Ep.eq_2 <|
 And.intro @Gu.eq_1 <|
 And.intro @aZ.eq_1 <|
 And.intro @aZ.eq_2 <|
 And.intro @aZ.eq_3 <|
 And.intro @aZ.eq_4 <|
 And.intro @aZ.eq_5 <|
 And.intro @aZ.eq_6 <|
 And.intro @aZ.eq_7 <|
 And.intro @aZ.eq_8 <|
 And.intro @aZ.eq_9 <|
 And.intro @aZ.eq_10 <|
 And.intro @aZ.eq_11 <|
 And.intro @aZ.eq_12 <|
 And.intro @aZ.go.eq_1 <|
 And.intro @aZ.go.eq_2 <|
 And.intro @bQ.eq_1 <|
 And.intro @bQ.eq_2 <|
 And.intro @bQ.eq_3 <|
 And.intro @bQ.eq_4 <|
 And.intro @bQ.eq_5 <|
 And.intro @bQ.eq_6 <|
 And.intro @bQ.eq_7 <|
 And.intro @bQ.eq_8 <|
 And.intro @jt.eq_1 <|
 And.intro @jt.eq_2 <|
 And.intro @jt.eq_3 <|
 And.intro @jH.eq_1 <|
 And.intro @mQ.eq_1 <|
 And.intro @mQ.eq_2 <|
 And.intro @mQ.eq_3 <|
 And.intro @gm.eq_1 <|
 And.intro @vp.eq_1 <|
 And.intro @mK.eq_1 <|
 And.intro @jB.eq_1 <|
 And.intro @jB.eq_2 <|
 And.intro @jB.eq_3 <|
 And.intro @jB.eq_4 <|
 And.intro @jB.eq_5 <|
 And.intro @dP.eq_1 <|
 And.intro @dP.eq_2 <|
 And.intro @eG.eq_1 <|
 And.intro @ke.eq_1 <|
 And.intro @ke.eq_2 <|
 And.intro @iO.eq_1 <|
 And.intro @iO.eq_2 <|
 And.intro @iO.eq_3 <|
 And.intro @oZ.eq_1 <|
 And.intro @MU.eq_1 <|
 And.intro @pB.eq_1 <|
 And.intro @s7.eq_1 <|
 And.intro @s7.eq_2 <|
 And.intro @ml.eq_1 <|
 And.intro @ml.eq_2 <|
 And.intro @ml.eq_3 <|
 And.intro @ml.eq_4 <|
 And.intro @List.map_cons.{0,0} <|
 And.intro @List.map_nil.{0,0} <|
 And.intro @List.toList_toArray.{0} <|
 And.intro @List.getElem?_cons_zero.{0} <|
 And.intro @List.getElem?_cons_succ.{0} <|
 And.intro @List.take_zero.{0} <|
 And.intro @List.all_nil.{0} <|
 And.intro @List.length_cons.{0} <|
 And.intro @List.length_nil.{0} <|
 And.intro @List.drop_zero.{0} <|
 And.intro @List.drop_succ_cons.{0} <|
 And.intro @if_true.{1} <|
 And.intro @if_false.{1} <|
 And.intro @List.nil_append.{0} <|
 And.intro @List.cons_append.{0} <|
 And.intro @ne_eq.{1} <|
 And.intro @mL.eq_1 <|
 And.intro @eC.eq_1 <|
 And.intro @rA.eq_1 <|
 And.intro @rA.eq_2 <|
 And.intro @pz.eq_1 <|
 And.intro @pz.eq_2 <|
 And.intro @mY.eq_1 <|
 And.intro @GG.eq_1 <|
 And.intro @GG.eq_2 <|
 And.intro @GG.eq_3 <|
 And.intro @fx.eq_1 <|
 And.intro @gG.eq_1 <|
 And.intro @gG.eq_2 <|
 And.intro @gG.eq_3 <|
 And.intro @gG.eq_4 <|
 And.intro @cP.eq_1 <|
 And.intro @ar.eq_1 <|
 And.intro @ar.eq_2 <|
 And.intro @ar.eq_3 <|
 And.intro @ar.eq_4 <|
 And.intro @ar.eq_5 <|
 And.intro @ar.eq_6 <|
 And.intro @ar.eq_7 <|
 And.intro @ar.eq_8 <|
 And.intro @ar.eq_9 <|
 And.intro @ar.eq_10 <|
 And.intro @ar.eq_11 <|
 And.intro @ar.eq_12 <|
 And.intro @ar.go.eq_1 <|
 And.intro @ar.go.eq_2 <|
 And.intro @jq.eq_1 <|
 And.intro @vQ.eq_1 <|
 And.intro @vQ.eq_2 <|
 And.intro @Dl.eq_1 <|
 And.intro @Dl.eq_2 <|
 And.intro @mU.eq_1 <|
 And.intro @mU.eq_2 <|
 And.intro @eU.eq_1 <|
 And.intro @eU.eq_2 <|
 And.intro @eU.eq_3 <|
 And.intro @List.replicate.eq_1.{0} <|
 And.intro @List.replicate.eq_2.{0} <|
 And.intro @List.mapM_cons.{0,0,0} <|
 And.intro @List.mapM_nil.{0,0,0} <|
 And.intro @Option.pure_def.{0} <|
 And.intro @Option.bind_eq_bind.{0} <|
 And.intro @Option.bind_some.{0,0} <|
 And.intro @fU.eq_1 <|
 And.intro @List.set_cons_zero.{0} <|
 And.intro @List.set_cons_succ.{0} <|
 And.intro @List.take_succ_cons.{0} <|
 And.intro @List.contains_nil.{0} <|
 And.intro @List.contains_cons.{0} <|
 And.intro @List.flatMap_cons.{0,0} <|
 And.intro @List.flatMap_nil.{0,0} <|
 And.intro @List.all_cons.{0} <|
 And.intro @List.append_nil.{0} <|
 And.intro @List.length_map.{0,0} <|
 And.intro @List.getElem?_map.{0,0} <|
 And.intro @Option.map_some.{0,0} <|
 And.intro @gZ.eq_1 <|
 And.intro @rB.eq_1 <|
 And.intro @lz.eq_1 <|
 And.intro @ij.eq_1 <|
 And.intro @ij.eq_2 <|
 And.intro @ij.eq_3 <|
 And.intro @ij.eq_4 <|
 And.intro @Go.VL.CC <|
 And.intro @Go.VL.C0 <|
 And.intro @Go.VL.Dx <|
 And.intro @Go.VL.zS <|
 And.intro @Go.VL.F9 <|
 And.intro @Go.VL.zk <|
 And.intro @Go.VL.FM <|
 And.intro @Go.VL.Gc <|
 And.intro @Go.VL.Gw <|
 And.intro @Go.VL.K3 <|
 And.intro @Go.VL.JJ <|
 And.intro @Go.VL.CT <|
 And.intro @Go.VL.z9 <|
 And.intro @Go.VL.zw <|
 And.intro @Go.VL.xG <|
 And.intro @Go.VL.Ac <|
 And.intro @Go.VL.BI <|
 And.intro @Go.VL.y9 <|
 And.intro @Go.VL.zh <|
 And.intro @Go.VL.Bp <|
 And.intro @Go.VL.y7 <|
 And.intro @Go.VL.xy <|
 @jO.eq_1) :=
 And.intro @eq_self.{1} <|
 And.intro @hole.eq_1 <|
 And.intro @eW.eq_1 <|
 And.intro @jL.eq_1 <|
 And.intro @fZ.eq_1 <|
 And.intro @fZ.eq_2 <|
 And.intro @A9.eq_1 <|
 And.intro @A9.eq_2 <|
 And.intro @AW.eq_1 <|
 And.intro @Lq.eq_1 <|
 And.intro @Ic.eq_1 <|
 And.intro @oE.eq_1 <|
 And.intro @Jl.eq_1 <|
 And.intro @Km.eq_1 <|
 And.intro @Jt.eq_1 <|
 And.intro @fh.eq_1 <|
 And.intro @fh.eq_2 <|
 And.intro @fh.eq_3 <|
 And.intro @fh.eq_4 <|
 And.intro @fh.eq_5 <|
 And.intro @Go.Op.operands.eq_1 <|
 And.intro @Go.Op.operands.eq_2 <|
 And.intro @Go.Op.operands.eq_3 <|
 And.intro @Go.Op.operands.eq_4 <|
 And.intro @Go.Op.operands.eq_5 <|
 And.intro @Go.Op.operands.eq_6 <|
 And.intro @Go.Op.operands.eq_7 <|
 And.intro @Go.Op.operands.eq_8 <|
 And.intro @Go.Op.operands.eq_9 <|
 And.intro @Go.Op.operands.eq_10 <|
 And.intro @Go.Op.operands.eq_11 <|
 And.intro @Go.Op.operands.eq_12 <|
 And.intro @Go.Op.operands.eq_13 <|
 And.intro @Go.Op.operands.eq_14 <|
 And.intro @Go.Op.operands.eq_15 <|
 And.intro @Go.Op.operands.eq_16 <|
 And.intro @Go.Op.operands.eq_17 <|
 And.intro @Go.Op.operands.eq_18 <|
 And.intro @Go.Op.operands.eq_19 <|
 And.intro @Go.Op.operands.eq_20 <|
 And.intro @Go.Op.operands.eq_21 <|
 And.intro @Go.Op.operands.eq_22 <|
 And.intro @Go.Op.operands.eq_23 <|
 And.intro @Go.Op.operands.eq_24 <|
 And.intro @Go.Op.operands.eq_25 <|
 And.intro @Go.Op.operands.eq_26 <|
 And.intro @Go.Op.operands.eq_27 <|
 And.intro @Go.Op.operands.eq_28 <|
 And.intro @Go.Op.operands.eq_29 <|
 And.intro @Go.Op.operands.eq_30 <|
 And.intro @Go.Op.operands.eq_31 <|
 And.intro @Go.Op.operands.eq_32 <|
 And.intro @Go.Op.operands.eq_33 <|
 And.intro @Go.Op.operands.eq_34 <|
 And.intro @Go.Op.operands.eq_35 <|
 And.intro @Go.Op.operands.eq_36 <|
 And.intro @Go.Op.operands.eq_37 <|
 And.intro @Go.Op.operands.eq_38 <|
 And.intro @Go.Op.operands.eq_39 <|
 And.intro @Go.Op.operands.eq_40 <|
 And.intro @Go.Op.operands.eq_41 <|
 And.intro @Go.Op.operands.eq_42 <|
 And.intro @Go.Op.operands.eq_43 <|
 And.intro @Go.Call.operands.eq_1 <|
 And.intro @Array.toList_append.{0} <|
 And.intro @ef.eq_1 <|
 And.intro @ef.eq_2 <|
 And.intro @ef.eq_3 <|
 And.intro @ef.eq_4 <|
 And.intro @ef.eq_5 <|
 And.intro @ef.eq_6 <|
 And.intro @ef.eq_7 <|
 And.intro @vN.eq_1 <|
 And.intro @vN.eq_2 <|
 And.intro @vN.eq_3 <|
 And.intro @jM.eq_1 <|
 And.intro @ep.eq_1 <|
 And.intro @ep.eq_2 <|
 And.intro @gQ.eq_1 <|
 And.intro @gQ.eq_2 <|
 And.intro @CF <|
 And.intro @ev.eq_1 <|
 And.intro @ev.eq_2 <|
 And.intro @ev.eq_3 <|
 And.intro @ev.eq_4 <|
 And.intro @Ng.eq_1 <|
 And.intro @Ng.eq_2 <|
 And.intro @cv.eq_1 <|
 And.intro @cv.eq_2 <|
 And.intro @cv.eq_3 <|
 And.intro @cv.eq_4 <|
 And.intro @mP.eq_1 <|
 And.intro @mf.eq_1 <|
 And.intro @mf.eq_2 <|
 And.intro @mf.eq_3 <|
 And.intro @ov.eq_1 <|
 And.intro @ov.eq_2 <|
 And.intro @dC.eq_1 <|
 And.intro @dC.eq_2 <|
 And.intro @dC.eq_3 <|
 And.intro @dC.eq_4 <|
 And.intro @dC.eq_5 <|
 And.intro @dC.eq_6 <|
 And.intro @dC.eq_7 <|
 And.intro @dC.eq_8 <|
 And.intro @dC.eq_9 <|
 And.intro @dC.eq_10 <|
 And.intro @dC.eq_11 <|
 And.intro @dC.eq_12 <|
 And.intro @eP.eq_1 <|
 And.intro @eP.eq_2 <|
 And.intro @eP.eq_3 <|
 And.intro @eP.eq_4 <|
 And.intro @eP.eq_5 <|
 And.intro @eP.eq_6 <|
 And.intro @eP.eq_7 <|
 And.intro @eP.eq_8 <|
 And.intro @eP.eq_9 <|
 And.intro @eP.eq_10 <|
 And.intro @eP.eq_11 <|
 And.intro @eP.eq_12 <|
 And.intro @eP.eq_13 <|
 And.intro @eP.eq_14 <|
 And.intro @eP.eq_15 <|
 And.intro @vJ.eq_1 <|
 And.intro @vJ.eq_2 <|
 And.intro @vJ.eq_3 <|
 And.intro @ir.eq_1 <|
 And.intro @ir.eq_2 <|
 And.intro @ir.eq_3 <|
 And.intro @ir.eq_4 <|
 And.intro @ir.eq_5 <|
 And.intro @ir.eq_6 <|
 And.intro @xm.eq_1 <|
 And.intro @Bc.eq_1 <|
 And.intro @Bc.eq_2 <|
 And.intro @Ep.eq_1 <|
 And.intro @Ep.eq_2 <|
 And.intro @Gu.eq_1 <|
 And.intro @aZ.eq_1 <|
 And.intro @aZ.eq_2 <|
 And.intro @aZ.eq_3 <|
 And.intro @aZ.eq_4 <|
 And.intro @aZ.eq_5 <|
 And.intro @aZ.eq_6 <|
 And.intro @aZ.eq_7 <|
 And.intro @aZ.eq_8 <|
 And.intro @aZ.eq_9 <|
 And.intro @aZ.eq_10 <|
 And.intro @aZ.eq_11 <|
 And.intro @aZ.eq_12 <|
 And.intro @aZ.go.eq_1 <|
 And.intro @aZ.go.eq_2 <|
 And.intro @bQ.eq_1 <|
 And.intro @bQ.eq_2 <|
 And.intro @bQ.eq_3 <|
 And.intro @bQ.eq_4 <|
 And.intro @bQ.eq_5 <|
 And.intro @bQ.eq_6 <|
 And.intro @bQ.eq_7 <|
 And.intro @bQ.eq_8 <|
 And.intro @jt.eq_1 <|
 And.intro @jt.eq_2 <|
 And.intro @jt.eq_3 <|
 And.intro @jH.eq_1 <|
 And.intro @mQ.eq_1 <|
 And.intro @mQ.eq_2 <|
 And.intro @mQ.eq_3 <|
 And.intro @gm.eq_1 <|
 And.intro @vp.eq_1 <|
 And.intro @mK.eq_1 <|
 And.intro @jB.eq_1 <|
 And.intro @jB.eq_2 <|
 And.intro @jB.eq_3 <|
 And.intro @jB.eq_4 <|
 And.intro @jB.eq_5 <|
 And.intro @dP.eq_1 <|
 And.intro @dP.eq_2 <|
 And.intro @eG.eq_1 <|
 And.intro @ke.eq_1 <|
 And.intro @ke.eq_2 <|
 And.intro @iO.eq_1 <|
 And.intro @iO.eq_2 <|
 And.intro @iO.eq_3 <|
 And.intro @oZ.eq_1 <|
 And.intro @MU.eq_1 <|
 And.intro @pB.eq_1 <|
 And.intro @s7.eq_1 <|
 And.intro @s7.eq_2 <|
 And.intro @ml.eq_1 <|
 And.intro @ml.eq_2 <|
 And.intro @ml.eq_3 <|
 And.intro @ml.eq_4 <|
 And.intro @List.map_cons.{0,0} <|
 And.intro @List.map_nil.{0,0} <|
 And.intro @List.toList_toArray.{0} <|
 And.intro @List.getElem?_cons_zero.{0} <|
 And.intro @List.getElem?_cons_succ.{0} <|
 And.intro @List.take_zero.{0} <|
 And.intro @List.all_nil.{0} <|
 And.intro @List.length_cons.{0} <|
 And.intro @List.length_nil.{0} <|
 And.intro @List.drop_zero.{0} <|
 And.intro @List.drop_succ_cons.{0} <|
 And.intro @if_true.{1} <|
 And.intro @if_false.{1} <|
 And.intro @List.nil_append.{0} <|
 And.intro @List.cons_append.{0} <|
 And.intro @ne_eq.{1} <|
 And.intro @mL.eq_1 <|
 And.intro @eC.eq_1 <|
 And.intro @rA.eq_1 <|
 And.intro @rA.eq_2 <|
 And.intro @pz.eq_1 <|
 And.intro @pz.eq_2 <|
 And.intro @mY.eq_1 <|
 And.intro @GG.eq_1 <|
 And.intro @GG.eq_2 <|
 And.intro @GG.eq_3 <|
 And.intro @fx.eq_1 <|
 And.intro @gG.eq_1 <|
 And.intro @gG.eq_2 <|
 And.intro @gG.eq_3 <|
 And.intro @gG.eq_4 <|
 And.intro @cP.eq_1 <|
 And.intro @ar.eq_1 <|
 And.intro @ar.eq_2 <|
 And.intro @ar.eq_3 <|
 And.intro @ar.eq_4 <|
 And.intro @ar.eq_5 <|
 And.intro @ar.eq_6 <|
 And.intro @ar.eq_7 <|
 And.intro @ar.eq_8 <|
 And.intro @ar.eq_9 <|
 And.intro @ar.eq_10 <|
 And.intro @ar.eq_11 <|
 And.intro @ar.eq_12 <|
 And.intro @ar.go.eq_1 <|
 And.intro @ar.go.eq_2 <|
 And.intro @jq.eq_1 <|
 And.intro @vQ.eq_1 <|
 And.intro @vQ.eq_2 <|
 And.intro @Dl.eq_1 <|
 And.intro @Dl.eq_2 <|
 And.intro @mU.eq_1 <|
 And.intro @mU.eq_2 <|
 And.intro @eU.eq_1 <|
 And.intro @eU.eq_2 <|
 And.intro @eU.eq_3 <|
 And.intro @List.replicate.eq_1.{0} <|
 And.intro @List.replicate.eq_2.{0} <|
 And.intro @List.mapM_cons.{0,0,0} <|
 And.intro @List.mapM_nil.{0,0,0} <|
 And.intro @Option.pure_def.{0} <|
 And.intro @Option.bind_eq_bind.{0} <|
 And.intro @Option.bind_some.{0,0} <|
 And.intro @fU.eq_1 <|
 And.intro @List.set_cons_zero.{0} <|
 And.intro @List.set_cons_succ.{0} <|
 And.intro @List.take_succ_cons.{0} <|
 And.intro @List.contains_nil.{0} <|
 And.intro @List.contains_cons.{0} <|
 And.intro @List.flatMap_cons.{0,0} <|
 And.intro @List.flatMap_nil.{0,0} <|
 And.intro @List.all_cons.{0} <|
 And.intro @List.append_nil.{0} <|
 And.intro @List.length_map.{0,0} <|
 And.intro @List.getElem?_map.{0,0} <|
 And.intro @Option.map_some.{0,0} <|
 And.intro @gZ.eq_1 <|
 And.intro @rB.eq_1 <|
 And.intro @lz.eq_1 <|
 And.intro @ij.eq_1 <|
 And.intro @ij.eq_2 <|
 And.intro @ij.eq_3 <|
 And.intro @ij.eq_4 <|
 And.intro @Go.VL.CC <|
 And.intro @Go.VL.C0 <|
 And.intro @Go.VL.Dx <|
 And.intro @Go.VL.zS <|
 And.intro @Go.VL.F9 <|
 And.intro @Go.VL.zk <|
 And.intro @Go.VL.FM <|
 And.intro @Go.VL.Gc <|
 And.intro @Go.VL.Gw <|
 And.intro @Go.VL.K3 <|
 And.intro @Go.VL.JJ <|
 And.intro @Go.VL.CT <|
 And.intro @Go.VL.z9 <|
 And.intro @Go.VL.zw <|
 And.intro @Go.VL.xG <|
 And.intro @Go.VL.Ac <|
 And.intro @Go.VL.BI <|
 And.intro @Go.VL.y9 <|
 And.intro @Go.VL.zh <|
 And.intro @Go.VL.Bp <|
 And.intro @Go.VL.y7 <|
 And.intro @Go.VL.xy <|
 @jO.eq_1
theorem lX {P:Program}{f:FuncId} (ρ:List Nat) {cargs args:List V}{s exts IM:List Obj}{r r':V}{K:V→List Obj→Prop} (h:az P f cargs exts fun v s'=>v=r∧s'=IM) (CY:ρ.Nodup) (hl:IM.length=exts.length)
  (hs:ρ.map (fun i=>s[i]?)=exts.map (fun o=>some (ct ρ o))) (ha:args=cargs.map (bu ρ)) (rn:ar.go exts.length cargs=true) (Mq:exts.all (cP exts.length)=true) (hr:bu ρ r=r') (hk:K r' (bm s ρ (IM.map (ct ρ)))):az P f args s K:=by
 have hρ:ρ.length=exts.length:=by simpa using congrArg List.length hs
 refine rN h ρ hρ CY (fun k o ho=>?_) ha rn Mq fun v s' hv=>?_
 ·have h1:=congrArg (fun l=>l[k]?) hs
  simp only[VB,ho,Wc]at h1
  have hk:k<ρ.length:=by rw[hρ];exact(List.getElem?_eq_some_iff.1 ho).1
  rw[Vu hk]at h1
  simp only[Wc,Option.some.injEq]at h1
  simpa [List.getD,Vu hk]using h1
 ·obtain⟨rfl,rfl⟩:=hv
  exact⟨hl,by rw[hr];exact hk⟩
theorem DV {P:Program}{f:FuncId}{args:List V}{s s1:List Obj}{r:V}{rd wr:List Nat}{K:V→List Obj→Prop} (h:az P f args s fun v s'=>v=r∧s'=s1) (SU:∀i,i<s.length→i∈rd) (Rj:s1.length=wr.length)
  (hwr:bm s wr s1=s1) (hk:K r s1):C4 P rd wr f args s K:=by
 refine⟨r,s1,Rj,fun s' hl hs=>?_,by rw[hwr];exact hk⟩
 have e:s'=s:=by
  apply List.ext_getElem?
  intro i
  rcases VX i s.length with hi|hi
  ·exact hs i (SU i hi)
  ·rw[Wb (by omega),Wb hi]
 subst e
 rw[hwr]
 exact h
theorem du.Lt {O:Nat→Prop}{w:World}{cs ex:List D}{u:Value} (h:du O w (.el (cs++ex)) u):du O w (.el cs) u:=by
 generalize hd:D.el (cs++ex)=x at h
 cases h with
 |el OS a f h1 h2 h3 =>
  cases hd
  exact .el cs a f h1 (fun j x hx=>h2 j x (by rw[VH (List.getElem?_eq_some_iff.1 hx).1];exact hx)) (fun j x hx=>h3 j x (by rw[VH (List.getElem?_eq_some_iff.1 hx).1];exact hx))
 |_=>cases hd
theorem Hg {P:Program}{f:FuncId}{cs ex:List D}{args:List V}{s:List Obj}{K:V→List Obj→Prop} (h:az P f (.d (.el cs)::args) s K):az P f (.d (.el (cs++ex))::args) s K:=by
 refine⟨h.1,fun σ w vals hI hl hv=>h.2 σ w vals hI (by simpa using hl) fun i x hx=>?_⟩
 cases i with
 |zero =>
  simp at hx;subst hx
  have:=hv 0 _ rfl
  generalize vals.getD 0 undef=u at this ⊢
  cases this with|d hd=>exact .d hd.Lt
 |succ i=>exact hv (i+1) x (by simpa using hx)
theorem EC {σ:Gh}{s:List Obj}{w:World} (hI:Inv σ s w) {k:Nat}{o:Obj}{els':List (List V)} (ho:s[k]?=some o) (hlen:∀e∈els',e.length=o.sz) (S9:els'.length=o.aL.length) (No:∀es,o.aL≠iP es)
  (h:∀(i j:Nat) (x':V),(els'[i]?.bind (·[j]?))=some x'→∃x,(o.aL[i]?.bind (·[j]?))=some x∧∀u,aJ σ s w x u→aJ σ s w x' u) :
  bc σ s w σ (s.set k { o with aL:=els' }) w∧Inv σ (s.set k { o with aL:=els' }) w:=by
 have hk:=(List.getElem?_eq_some_iff.1 ho).1
 have get:∀(id:Nat) (o':Obj),(s.set k { o with aL:=els' })[id]?=some o'→∃o1,s[id]?=some o1∧o1.live=o'.live∧o1.g=o'.g∧o1.sz=o'.sz:=by
  intro id o' h'
  rw[List.getElem?_set]at h'
  split at h'
  ·rename_i he
   subst he
   try rw[if_pos hk]at h'
   simp only[Option.some.injEq]at h'
   subst h'
   exact⟨o,ho,rfl,rfl,rfl⟩
  ·exact⟨o',h',rfl,rfl,rfl⟩
 have put:∀(id:Nat) (o1:Obj),s[id]?=some o1→∃o',(s.set k { o with aL:=els' })[id]?=some o'∧o'.g=o1.g∧o'.sz=o1.sz∧o'.live=o1.live:=by
  intro id o1 h'
  rw[List.getElem?_set]
  split
  ·rename_i he
   subst he
   rw[ho]at h'
   simp only[Option.some.injEq]at h'
   subst h'
   first|exact⟨_,rfl,rfl,rfl,rfl⟩|exact⟨_,by rw[if_pos hk],rfl,rfl,rfl⟩
  ·exact⟨o1,h',rfl,rfl,rfl⟩
 have hE:bc σ s w σ (s.set k { o with aL:=els' }) w:=by
  refine⟨rfl,rfl,rfl,VA _,fun _ _ _=>rfl,fun _ arr _ _ h=>⟨arr,h,rfl⟩,fun _ _ h=>h,?_,?_,rfl,fun _ _ _=>rfl⟩
  ·rintro b (hb|⟨id,o',base,h1,h2,h3⟩)
   ·exact .inl (.inl hb)
   ·obtain⟨o1,k1,k2,_⟩:=get id o' h1
    exact .inl (.inr ⟨id,o1,base,k1,by rw[k2];exact h2,h3⟩)
  ·intro id o1 h1
   obtain⟨o',k1,k2,k3,_⟩:=put id o1 h1
   exact⟨o',k1,by omega,fun _=>⟨k3,rfl⟩⟩
 refine⟨hE,⟨?_,?_,hI.low,?_⟩⟩
 ·intro id o' h1
  by_cases he:id=k
  ·subst he
   rw[V8 hk]at h1
   simp only[Option.some.injEq]at h1
   subst h1
   rcases hI.content id o ho with (⟨c1,c2⟩|⟨b,es,c,c1,c2,c3⟩)|⟨b,base,arr,E,c1,c2,c3,c4,c5⟩
   ·left;exact .inl ⟨c1,VD (by show els'.length=0;rw[S9,c2];rfl)⟩
   ·exact(No es c3).elim
   ·right
    refine⟨b,base,arr,E,c1,c2,hlen,by show base+els'.length*o.sz≤arr.size;rw[S9];exact c4,fun i j x' hx=>?_⟩
    obtain⟨x,y1,y2⟩:=h i j x' hx
    obtain⟨u,z1,z2,z3⟩:=c5 i j x y1
    exact⟨u,z1,z2,(y2 u z3).bM hE⟩
  ·rw[Wg (Ne.symm he)]at h1
   rcases hI.content id o' h1 with c|⟨b,base,arr,E,c1,c2,c3,c4,c5⟩
   ·exact .inl c
   ·right
    refine⟨b,base,arr,E,c1,c2,c3,c4,fun i j x hx=>?_⟩
    obtain⟨u,z1,z2,z3⟩:=c5 i j x hx
    exact⟨u,z1,z2,z3.bM hE⟩
 ·intro id jJ o1 o2 b base cj h1 h2 h3 h4 h5
  obtain⟨p1,q1,q2,_⟩:=get id o1 h1
  obtain⟨p2,r1,_⟩:=get jJ o2 h2
  exact hI.inj id jJ p1 p2 b base cj q1 r1 (by rw[q2];exact h3) h4 h5
 ·intro id o1 b base h1 h2
  obtain⟨p1,q1,_⟩:=get id o1 h1
  exact hI.apart id p1 b base q1 h2
theorem kX {P:Program}{f:FuncId}{args:List V}{s:List Obj}{o:Obj}{pre post:List V} (k sz:Nat) {K:V→List Obj→Prop} (ho:s[k]?=some o) (kV:o.aL=[pre++.fu []::post]) (gH:pre.length+1+post.length=o.sz)
  (h:az P f args (s.set k { o with aL:=[pre++.so s.length 0 0 0::post] }++[⟨0,true,sz,[]⟩]) K):az P f args s K:=by
 refine⟨h.1,fun σ w vals hI hl hv=>?_⟩
 have hk:=(List.getElem?_eq_some_iff.1 ho).1
 have hp:=lR (p:=none) (o':=⟨0,true,sz,[]⟩) (w':=w) hI rfl rfl rfl (VA _) (fun _ _=>rfl) (fun _ _ h'=>by cases h') (fun _=>.inl (.inl ⟨rfl,rfl⟩))
 have Pz:(s++[(⟨0,true,sz,[]⟩:Obj)])[k]?=some o:=by rw[VH hk];exact ho
 have hr:=EC hp.2 (els':=[pre++.so s.length 0 0 0::post]) Pz (by intro e he;rw[List.mem_singleton.1 he];simp;omega) (by rw[kV];rfl) (by
  intro es he
  rw[kV]at he
  have hm:(pre++.fu []::post)∈iP es:=by rw[← he];exact List.mem_singleton.2 rfl
  unfold iP at hm
  obtain⟨x,_,hx⟩:=List.mem_map.1 hm
  have hf:V.fu []∈[V.d (.sc x.key),V.d (.sc x.val)]:=by rw[hx];simp
  simp at hf) (fun i j x' hx=>by
  rw[kV]
  cases i with
  |succ i=>simp at hx
  |zero =>
   simp only[VQ,Wd]at hx ⊢
   by_cases hj:j=pre.length
   ·subst hj
    rw[VF (VA _),Wv]at hx ⊢
    simp only[VQ,Option.some.injEq]at hx ⊢
    subst hx
    refine⟨_,rfl,fun u hu=>?_⟩
    cases hu with|fu hx=>?_
    exact .so ⟨0,true,sz,[]⟩ (by simp) (VA _) rfl (fun _=>.inl ⟨b9 _ _ _,⟨_,rfl⟩,rfl,rfl⟩)
   ·refine⟨x',?_,fun u hu=>hu⟩
    rcases VX j pre.length with aT|iR
    ·rw[VH aT]at hx ⊢;exact hx
    ·rw[VF iR]at hx ⊢
     cases hm:j-pre.length with
     |zero=>omega
     |succ m=>rw[hm]at hx;simpa using hx)
 have cC:(s++[(⟨0,true,sz,[]⟩:Obj)]).set k { o with aL:=[pre++.so s.length 0 0 0::post] }=s.set k { o with aL:=[pre++.so s.length 0 0 0::post] }++[⟨0,true,sz,[]⟩]:=by
  rw[List.set_append_left _ _ hk]
 rw[cC]at hr
 have hE:=hp.1.trans hr.1
 exact(h.2 _ w vals hr.2 hl (fun i x hx=>(hv i x hx).bM hE)).mono fun _ _ ⟨u,v,σ',s',a,b,c,d,e⟩=>⟨u,v,σ',s',a,hE.trans b,c,d,e⟩
theorem aJ.RM {σ σ':Gh}{s s':List Obj}{w w':World}{c u:Value} (h:aJ σ s w (.d (.sc c)) u):aJ σ' s' w' (.d (.sc c)) u:=by
 cases h with|d h=>?_
 cases h with|sc _ hc=>exact .d (.sc _ hc)
theorem fX {P:Program}{f:FuncId}{args cargs:List V}{c:Value}{s:List Obj}{K:V→List Obj→Prop} (ids:List Nat) (h:bI P f cargs (.d (.sc c)))
  (hc:aZ.go (bk s ids).length (bk s ids) args=some cargs) (rn:ar.go 0 cargs=true) (hk:K (.d (.sc c)) s):az P f args s K:=by
 refine⟨h.1,fun σ w vals hI hl hv=>?_⟩
 obtain⟨MY,OP⟩:=tA ids s hI
 obtain⟨k1,k2⟩:=nS hc
 have e1:∀b,Own ⟨fun _=>none,Own σ (bk s ids)⟩ [] b→Own σ (bk s ids) b:=by
  rintro b (h|⟨id,o,base,h1,_⟩)
  ·exact h
  ·simp at h1
 refine(h.2 ⟨fun _=>none,Own σ (bk s ids)⟩ w vals ⟨fun id o ho=>by simp at ho,fun id _ o _ _ _ _ ho=>by simp at ho,fun b hb=>uf OP hb,fun id o _ _ ho=>by simp at ho⟩ (by omega)
  (fun i x hx=>by
   obtain⟨y,hy,hf⟩:=k2 i x hx
   have:=lA OP ((hv i y hy).bM MY) hf
   rw[We]at this
   exact this.move (dE rn i x hx) e1)).mono fun e w' ⟨u,v,σ',s',he,hE,jF,hR,Sv,nq⟩=>?_
 subst Sv;subst nq
 have same:=sX (w':=w') hI hE.os hE.tape hE.output hE.size fun b hb=>by
  by_cases ho:Own σ (bk s ids) b
  ·exact hE.gn b hb ho
  ·exact hE.cc b hb fun h'=>ho (e1 b h')
 exact⟨u,_,σ,s,he,same.1,same.2,hR.RM,hk⟩
theorem dt.Sr {L:Nat}{e e':Env}{s s':List Obj} (h:bL e s e' s'):dt L e s e' s':=fun σ0 s0 w0 σ w N a _ hE hI hR=>h σ0 s0 w0 σ w N a hE hI hR
theorem dt.freeze {L:Nat}{e:Env}{s:List Obj} (ids zc:List Nat):dt L e s (fy (bk s ids) zc e) (bk s ids):=.Sr (.freeze ids zc)
def ja (cc:List Nat):V→V
 |.so id g lo n=>match cc.idxOf? id with|some k=>.so k g lo n|none=>.any
 |.rf id g i off=>match cc.idxOf? id with|some k=>.rf k g i off|none=>.any
 |.pp id g i off b a=>match cc.idxOf? id with|some k=>.pp k g i off b a|none=>.any
 |.mp id g=>match cc.idxOf? id with|some k=>.mp k g|none=>.any
 |.ag cs=>.ag (go cs)
 |.tu cs=>.tu (go cs)
 |.bx v=>.bx (ja cc v)
 |.cap lo hi v=>.cap lo hi (ja cc v)
 |.cl fn first ai=>.cl fn (go first) (go ai)
 |.d x=>.d x
 |.fu aL=>.fu aL
 |.un=>.un
 |.any=>.any
where go:List V→List V
 |[]=>[]
 |v::vs=>ja cc v::go vs
theorem nB (cc:List Nat):∀(l:List V),ja.go cc l=l.map (ja cc)
 |[]=>rfl
 |v::vs=>by simp [ja.go,nB cc vs]
def mo (cc:List Nat) (o:Obj):Obj:={ o with aL:=o.aL.map (ja.go cc) }
def yI (cc:List Nat) (s:List Obj):List Obj:=cc.map fun id=>mo cc (s.getD id hole)
def Jz (cc:List Nat) (σ:Gh):Gh:=⟨fun k=>match cc[k]? with|some id=>σ id|none=>none,σ.base⟩
section MX
variable {σ:Gh}{s:List Obj}{w:World}{cc:List Nat}
theorem BQ {k:Nat}{o:Obj} (h:(yI cc s)[k]?=some o):∃id,cc[k]?=some id∧o=mo cc (s.getD id hole):=by
 unfold yI at h
 rw[VB]at h
 obtain⟨id,h1,h2⟩:=Option.map_eq_some_iff.1 h
 exact⟨id,h1,h2.symm⟩
theorem sx {k id:Nat}{o:Obj} (h:cc[k]?=some id) (ho:s[id]?=some o):(yI cc s)[k]?=some (mo cc o):=by
 unfold yI
 rw[VB,h]
 simp [List.getD,ho]
theorem jY {k id:Nat} (h:cc[k]?=some id):Jz cc σ k=σ id:=by
 show (match cc[k]? with|some id=>σ id|none=>none)=σ id
 rw[h]
theorem vX (aT:∀id∈cc,id<s.length) {b:Nat} (h:Own (Jz cc σ) (yI cc s) b):Own σ s b:=by
 rcases h with h|⟨k,o,base,h1,h2,h3⟩
 ·exact .inl h
 ·obtain⟨id,k1,rfl⟩:=BQ h1
  have hi:=aT id (Vy k1)
  rw[jY k1]at h3
  have hg:s.getD id hole=s[id]:=by simp [List.getD,Vu hi]
  rw[hg]at h2
  exact .inr ⟨id,s[id],base,by simp [hi],h2,h3⟩
theorem qV {id k:Nat} (h:cc.idxOf? id=some k):cc[k]?=some id:=by
 rw[List.idxOf?_eq_some_iff]at h
 obtain⟨h1,h2,_⟩:=h
 rw[Vu h1]
 simpa using h2
theorem aJ.MX (aT:∀id∈cc,id<s.length) {x:V}{u:Value} (hr:aJ σ s w x u):aJ (Jz cc σ) (yI cc s) w (ja cc x) u:=by
 have g:∀(cs:List V) (i:Nat) (y:V),(cs.map (ja cc))[i]?=some y→∃x,cs[i]?=some x∧ja cc x=y:=fun cs i y hy=>by
  rw[VB]at hy
  exact Option.map_eq_some_iff.1 hy
 induction hr with
 |d hx=>exact .d (hx.own fun b hb=>vX aT hb)
 |fu hx=>exact .fu (hx.own fun b hb=>vX aT hb)
 |un=>exact .un
 |any=>exact .any
 |ag h1 h2 _ ih =>
  simp only[ja,nB]
  refine .ag (by simpa using h1) (fun i y hy=>?_) (fun i y hy=>?_)
  ·obtain⟨x,hx,rfl⟩:=g _ i y hy;exact h2 i x hx
  ·obtain⟨x,hx,rfl⟩:=g _ i y hy;exact ih i x hx
 |tu h1 _ ih =>
  simp only[ja,nB]
  refine .tu (by simpa using h1) (fun i y hy=>?_)
  obtain⟨x,hx,rfl⟩:=g _ i y hy;exact ih i x hx
 |bx h1 h2 h3 hu _ ih=>simp only[ja];exact .bx h1 h2 (fun h'=>h3 (vX aT h')) hu ih
 |cap h1 _ ih=>simp only[ja];exact .cap h1 ih
 |cl h1 _ h3 _ yj gz =>
  simp only[ja,nB]
  refine .cl (by simpa using h1) (fun i y hy=>?_) (by simpa using h3) (fun i y hy=>?_)
  ·obtain⟨x,hx,rfl⟩:=g _ i y hy;exact yj i x hx
  ·obtain⟨x,hx,rfl⟩:=g _ i y hy;exact gz i x hx
 |so o ho hg hu hk =>
  simp only[ja]
  split
  ·rename_i k bH
   have bH:=qV bH
   refine .so (mo cc o) (sx bH ho) hg hu fun rM=>?_
   have:=hk rM
   unfold yD at this ⊢
   rw[jY bH]
   exact this
  ·exact .any
 |rf o ho hg hu hk =>
  simp only[ja]
  split
  ·rename_i k bH
   have bH:=qV bH
   refine .rf (mo cc o) (sx bH ho) hg hu fun rM=>?_
   rw[jY bH]
   exact hk rM
  ·exact .any
 |pp o ho hg hk =>
  simp only[ja]
  split
  ·rename_i k bH
   have bH:=qV bH
   refine .pp (mo cc o) (sx bH ho) hg fun rM=>?_
   rw[jY bH]
   exact hk rM
  ·exact .any
 |mp o ho hg hu hk =>
  simp only[ja]
  split
  ·rename_i k bH
   have bH:=qV bH
   refine .mp (mo cc o) (sx bH ho) hg hu fun rM=>?_
   rw[jY bH]
   exact hk rM
  ·exact .any
theorem Inv.MX (hI:Inv σ s w) (aT:∀id∈cc,id<s.length) (CY:cc.Nodup):Inv (Jz cc σ) (yI cc s) w:=by
 have get:∀(k:Nat) (o:Obj),(yI cc s)[k]?=some o→∃id o',cc[k]?=some id∧s[id]?=some o'∧o=mo cc o':=by
  intro k o h
  obtain⟨id,k1,rfl⟩:=BQ h
  have hi:=aT id (Vy k1)
  exact⟨id,s[id],k1,by simp [hi],by simp [List.getD,Vu hi]⟩
 refine⟨fun k o ho=>?_,fun k k' o o' b base cj h1 h2 h3 h4 h5=>?_,hI.low,fun k o b base h1 h2=>?_⟩
 ·obtain⟨id,o',k1,k2,rfl⟩:=get k o ho
  rw[jY k1]
  rcases hI.content id o' k2 with (⟨h1,h2⟩|⟨b,es,c,h1,h2,h3⟩)|⟨b,base,arr,E,h1,h2,h3,h4,h5⟩
  ·exact .inl (.inl ⟨h1,by simp [mo,h2]⟩)
  ·refine .inl (.inr ⟨b,es,c,h1,h2,?_⟩)
   simp only[mo,h3,iP,List.map_map]
   apply Wn
   intro e _
   rfl
  ·refine .inr ⟨b,base,arr,E,h1,h2,fun c hc=>?_,by simpa [mo]using h4,fun i j x hx=>?_⟩
   ·obtain⟨c',MN,rfl⟩:=List.mem_map.1 hc
    rw[nB]
    simpa [mo]using h3 c' MN
   ·simp only[mo,VB]at hx
    cases hi:o'.aL[i]? with
    |none=>simp [hi]at hx
    |some c =>
     simp only[hi,Wc,Wd,nB,VB]at hx
     obtain⟨y,hy,rfl⟩:=Option.map_eq_some_iff.1 hx
     obtain⟨u,g1,g2,g3⟩:=h5 i j y (by simp [hi,hy])
     exact⟨u,g1,g2,g3.MX aT⟩
 ·obtain⟨id,p,k1,k2,rfl⟩:=get k o h1
  obtain⟨jJ,p',l1,l2,rfl⟩:=get k' o' h2
  rw[jY k1]at h4
  rw[jY l1]at h5
  have e:=hI.inj id jJ p p' b base cj k2 l2 h3 h4 h5
  subst e
  obtain⟨a1,a2⟩:=List.getElem?_eq_some_iff.1 k1
  obtain⟨b1,b2⟩:=List.getElem?_eq_some_iff.1 l1
  exact(List.getElem_inj CY).1 (a2.trans b2.symm)
 ·obtain⟨id,p,k1,k2,rfl⟩:=get k o h1
  rw[jY k1]at h2
  exact hI.apart id p b base k2 h2
theorem bc.MX {σ0:Gh}{s0:List Obj}{w0:World} (hE:bc σ0 s0 w0 σ s w) (aT:∀id∈cc,id<s.length) (SD:∀id,id<s0.length→cc[id]?=some id):bc σ0 s0 w0 (Jz cc σ) (yI cc s) w:=by
 refine⟨hE.os,hE.tape,hE.output,hE.size,hE.cc,hE.shape,hE.pF,fun b hb=>hE.own b (vX aT hb),fun id o ho=>?_,hE.base,hE.gn⟩
 obtain⟨o',h1,h2,h3⟩:=hE.aF id o ho
 have hk:=SD id (List.getElem?_eq_some_iff.1 ho).1
 exact⟨mo cc o',sx hk h1,h2,fun he=>⟨(h3 he).1,by rw[jY hk];exact(h3 he).2⟩⟩
end MX
def FI (L:Nat) (cc:List Nat) (n:Nat):Bool:=cc.Nodup&&cc.all (fun id=>decide (id<n))&&((List.range L).all fun id=>cc[id]? == some id)
theorem C9 {L n:Nat}{cc:List Nat} (h:FI L cc n=true):cc.Nodup∧(∀id∈cc,id<n)∧∀id,id<L→cc[id]?=some id:=by
 unfold FI at h
 simp only[VE,decide_eq_true_eq,VT,beq_iff_eq,List.mem_range]at h
 exact⟨h.1.1,h.1.2,h.2⟩
def MT (L:Nat) (s:List Obj) (r:V) (K:V→List Obj→Prop):Prop:=∃cc,FI L cc s.length=true∧K (ja cc r) (yI cc s)
def Pd (P:Program) (rs:List ResultVar) (L:Nat) (K:V→List Obj→Prop) (ex:Exit) (e:Env) (s:List Obj):Prop:=vN ex∧xm P rs e s fun r=>MT L s r K
theorem NO {P : Program} {f : FuncId} {fn : Func} {c : Code} {args : List V} {exts : List Obj} {K : V → List Obj → Prop} (hf : P.funcs[f]? = some fn) (hb : fn.body = some c) {N : Nat} (hN : fn.ntmps = N) {rs : Array ResultVar} (Ps : fn.results = rs) (hn : (fn.name != "runtime.NumGoroutine") = true)
  (cL M:Nat) (hl:exts.length≤cL) (ha:args.length≤N)
  (h:codeWp P N cL M c (Pd P rs.toList cL K) (jt args) exts):az P f args exts K:=by
 subst hN;subst Ps
 refine⟨by simp only[Ii,hf,hn,hb,Option.isSome_some,Bool.and_self],fun σ w vals hI OY hv=>?_⟩
 refine calls_of_wp hf hb ?_
 have hR:fK σ exts w fn.ntmps (jt args) { tmps:=vals++Array.replicate (fn.ntmps-vals.size) undef,defers:=[] }:=by
  refine⟨rfl,by simp;omega,fun t=>?_⟩
  rw[qN]
  by_cases ht:t<args.length
  ·have h1:=hv t args[t] (by simp [ht])
   have:(vals++Array.replicate (fn.ntmps-vals.size) undef).getD t undef=vals.getD t undef:=by
    rw[VI,Array.getElem?_append_left (by omega),VI]
   rw[this]
   simpa [ht]using h1
  ·have:(vals++Array.replicate (fn.ntmps-vals.size) undef).getD t undef=undef:=by
    rw[VI,Array.getElem?_append_right (by omega),Array.getElem?_replicate]
    split <;> rfl
   rw[this]
   simp [ht]
   exact .un
 refine wp_mono (dJ hl c _ (jt args) exts σ w _ (bc.refl _ _ _) hI hR h) fun ex a' w' ⟨e',σ',s',hE,jF,oN,hex,hq⟩=>?_
 obtain⟨v,u,k1,k2,k3⟩:=pb jF oN hq
 obtain⟨cc,h0,hK⟩:=k3
 obtain⟨h1,h2,h3⟩:=C9 h0
 have fin:a'.defers=[]∧∃v,(results fn a'.tmps).run P w'=.ok v w'∧∃u MM wJ tj,Ending.returned v=.returned u∧bc σ exts w wJ tj w'∧Inv wJ tj w'∧aJ wJ tj w' MM u∧K MM tj:=by
  refine⟨oN.1,u,k1,?_⟩
  exact⟨u,_,_,_,rfl,hE.MX h2 (fun id dB=>h3 id (by omega)),jF.MX h2 h1,k2.MX h2,hK⟩
 rcases uV hex with rfl|rfl
 ·exact fin
 ·exact fin
def yL (ρ:List Nat) (s exts s':List Obj):List Nat:=ρ++List.range' s.length (s'.length-exts.length)
theorem px:∀(ρ ρ':List Nat) (A B:List Obj) (s:List Obj),A.length=ρ.length→bm s (ρ++ρ') (A++B)=bm (bm s ρ A) ρ' B
 |[],ρ',[],B,s,_=>by simp [bm]
 |[],_,_::_,_,_,h=>by simp at h
 |_::_,_,[],_,_,h=>by simp at h
 |r::ρ,ρ',a::A,B,s,h=>by
  simp only[Vz,bm]
  exact px ρ ρ' A B _ (by simpa using h)
theorem sM:∀(ρ:List Nat) (A:List Obj) (s t:List Obj),(∀id∈ρ,id<s.length)→bm (s++t) ρ A=bm s ρ A++t
 |[],_,s,t,_=>by simp [bm]
 |r::ρ,[],s,t,_=>by simp [bm]
 |r::ρ,a::A,s,t,h=>by
  simp only[bm]
  rw[List.set_append_left _ _ (h r (by simp))]
  exact sM ρ A _ t (fun id dB=>by simpa using h id (by simp [dB]))
theorem u5:∀(m:Nat) (B s:List Obj),B.length=m→bm (s++List.replicate m hole) (List.range' s.length m) B=s++B
 |0,B,s,h=>by
  have:B=[]:=VD h
  subst this
  simp [bm]
 |m+1,[],s,h=>by simp at h
 |m+1,b::B,s,h=>by
  rw[List.range'_succ,List.replicate_succ]
  simp only[bm]
  rw[List.set_append_right _ _ (VA _),Wv,V5]
  have:=u5 m B (s++[b]) (by simpa using h)
  simpa using this
theorem xz {P:Program}{f:FuncId}{cargs args:List V}{exts s:List Obj}{Kc K:V→List Obj→Prop} (h:az P f cargs exts Kc) (ρ:List Nat) (hρ:ρ.length=exts.length) (CY:ρ.Nodup)
  (hs:∀(k:Nat) (o:Obj),exts[k]?=some o→s[ρ.getD k 0]?=some (ct ρ o)) (iJ:args=cargs.map (bu ρ)) (rn:ar.go exts.length cargs=true) (Mq:exts.all (cP exts.length)=true)
  (hk:∀v s',Kc v s'→exts.length≤s'.length→K (bu (yL ρ s exts s') v) (bm s ρ ((s'.take exts.length).map (ct (yL ρ s exts s')))++(s'.drop exts.length).map (ct (yL ρ s exts s')))):az P f args s K:=by
 refine⟨h.1,fun σ w vals hI hl hv=>?_⟩
 have Mu:∀k,k<exts.length→ρ[k]?=some (ρ.getD k 0):=fun k hk=>by simp [List.getD,show k<ρ.length by omega]
 have Rn:∀k k',k<exts.length→k'<exts.length→ρ.getD k 0=ρ.getD k' 0→k=k':=by
  intro k k' h1 h2 he
  have e1:=Mu k h1
  have e2:=Mu k' h2
  rw[he]at e1
  obtain⟨l1,g1⟩:=List.getElem?_eq_some_iff.1 e1
  obtain⟨l2,g2⟩:=List.getElem?_eq_some_iff.1 e2
  exact(List.getElem_inj CY).1 (g1.trans g2.symm)
 have Eb:∀k,(hk:k<exts.length)→s[ρ.getD k 0]?=some (ct ρ exts[k]):=fun k hk=>hs k exts[k] (by simp [hk])
 let oU:Nat→Prop:=fun b=>∃k base,k<exts.length∧σ (ρ.getD k 0)=some (b,base)
 let σc:Gh:=⟨fun k=>if k<exts.length then σ (ρ.getD k 0) else none,fun b=>Own σ s b∧¬oU b⟩
 have AX:∀k,k<exts.length→σc k=σ (ρ.getD k 0):=fun k hk=>if_pos hk
 have uv:∀b,Own σc exts b→Own σ s b:=by
  rintro b (hb|⟨k,o,base,h1,h2,h3⟩)
  ·exact hb.1
  ·have aT:=(List.getElem?_eq_some_iff.1 h1).1
   rw[AX k aT]at h3
   exact .inr ⟨ρ.getD k 0,ct ρ o,base,hs k o h1,h2,h3⟩
 have Iw:∀b,Own σ s b→Own σc exts b:=by
  intro b hb
  by_cases he:oU b
  ·obtain⟨k,base,aT,h3⟩:=he
   refine .inr ⟨k,exts[k],base,by simp [aT],?_,by rw[AX k aT];exact h3⟩
   rcases hb with hb|⟨id,o,cj,g1,g2,g3⟩
   ·exact absurd hb (hI.apart _ _ b base (Eb k aT) h3)
   ·have:=hI.inj id _ o _ b cj base g1 (Eb k aT) g2 g3 h3
    subst this
    rw[Eb k aT]at g1
    cases g1
    exact g2
  ·exact .inl ⟨hb,he⟩
 have Rz:Inv σc exts w:=by
  refine⟨fun k o ho=>?_,fun k k' o o' b base cj h1 h2 h3 h4 h5=>?_,fun b hb=>uf hI hb.1,fun k o b base h1 h2 hb=>?_⟩
  ·have aT:=(List.getElem?_eq_some_iff.1 ho).1
   rw[AX k aT]
   rcases hI.content _ _ (hs k o ho) with g1|⟨b,base,arr,E,g1,g2,g3,g4,g5⟩
   ·exact .inl g1.down
   ·refine .inr ⟨b,base,arr,E,g1,g2,fun e he=>?_,by simpa [ct]using g4,fun i j x hx=>?_⟩
    ·have:=g3 (bu.go ρ e) (List.mem_map.2 ⟨e,he,rfl⟩)
     rw[gM]at this
     simpa [ct]using this
    ·obtain⟨u,k1,k2,k3⟩:=g5 i j _ (Ab hx)
     refine⟨u,k1,k2,ss uv hs AX k3 rfl ?_⟩
     have hobj:=List.all_eq_true.1 Mq o (Vy ho)
     cases xC:o.aL[i]? with
     |none=>rw[xC]at hx;cases hx
     |some e =>
      rw[xC]at hx
      exact List.all_eq_true.1 (List.all_eq_true.1 hobj e (Vy xC)) x (Vy hx)
  ·have l1:=(List.getElem?_eq_some_iff.1 h1).1
   have l2:=(List.getElem?_eq_some_iff.1 h2).1
   rw[AX k l1]at h4
   rw[AX k' l2]at h5
   exact Rn k k' l1 l2 (hI.inj _ _ _ _ b base cj (hs k o h1) (hs k' o' h2) h3 h4 h5)
  ·have l1:=(List.getElem?_eq_some_iff.1 h1).1
   rw[AX k l1]at h2
   exact hb.2 ⟨k,base,l1,h2⟩
 refine(h.2 σc w vals Rz (by rw[hl,iJ];simp) (fun i x hx=>ss uv hs AX (hv i _ (by rw[iJ,VB,hx];rfl)) rfl (dE rn i x hx))).mono fun e w' ⟨u,v,σ',s',he,hE,jF,hR,hK⟩=>?_
 have hle:exts.length≤s'.length:=by
  rcases Nat.eq_zero_or_pos exts.length with h0|h0
  ·omega
  ·obtain⟨o',g1,_⟩:=hE.aF (exts.length-1) exts[exts.length-1] (Vu (by omega))
   have:=(List.getElem?_eq_some_iff.1 g1).1
   omega
 have hK:=hk v s' hK hle
 have PM:∀id∈ρ,id<s.length:=by
  intro id dB
  obtain⟨k,hk⟩:=List.mem_iff_getElem?.1 dB
  have aT:k<exts.length:=by have:=(List.getElem?_eq_some_iff.1 hk).1;omega
  have h1:=(List.getElem?_eq_some_iff.1 (Eb k aT)).1
  have:ρ.getD k 0=id:=by simp [List.getD,hk]
  omega
 obtain⟨R,OW⟩:∃R,R=yL ρ s exts s':=⟨_,rfl⟩
 rw[← OW]at hK
 have UY:R.length=s'.length:=by rw[OW];simp [yL];omega
 have S6:R.Nodup:=by
  rw[OW];unfold yL
  rw[List.nodup_append]
  refine⟨CY,List.nodup_range',fun a ha b hb he=>?_⟩
  subst he
  have h1:=PM a ha
  have h2:=List.mem_range'.1 hb
  omega
 have Iy:∀k,k<exts.length→R.getD k 0=ρ.getD k 0:=fun k hk=>by
  rw[OW];unfold yL
  simp only[List.getD]
  rw[VH (by omega)]
 have Oe:∀k,exts.length≤k→k<s'.length→R.getD k 0=s.length+(k-exts.length):=fun k h1 h2=>by
  rw[OW];unfold yL
  simp only[List.getD]
  rw[VF (by omega),List.getElem?_range' (by omega)]
  simp;omega
 have Q4:∀k,k<s'.length→R[k]?=some (R.getD k 0):=fun k hk=>by simp [List.getD,show k<R.length by omega]
 have Se:∀k,k<s'.length→R.getD k 0<s.length+(s'.length-exts.length):=fun k hk=>by
  rcases VX k exts.length with h1|h1
  ·rw[Iy k h1]
   have:=(List.getElem?_eq_some_iff.1 (Eb k h1)).1
   omega
  ·rw[Oe k h1 hk];omega
 have MJ:bm s ρ ((s'.take exts.length).map (ct R))++(s'.drop exts.length).map (ct R)=bm (s++List.replicate (s'.length-exts.length) hole) R (s'.map (ct R)):=by
  have eD:s'.map (ct R)=(s'.take exts.length).map (ct R)++(s'.drop exts.length).map (ct R):=by rw[← WA,List.take_append_drop]
  rw[eD,OW]
  unfold yL
  generalize ct (ρ++List.range' s.length (s'.length-exts.length))=F
  rw[px _ _ _ _ _ (by simp;omega),sM _ _ _ _ PM]
  have OR:(bm s ρ ((s'.take exts.length).map F)).length=s.length:=lH _ _ _
  generalize bm s ρ ((s'.take exts.length).map F)=T at *
  rw[← OR,u5 (s'.length-exts.length) _ T (by simp)]
 rw[MJ]at hK
 clear MJ
 -- back
 let σn:Gh:=⟨fun id=>match R.idxOf? id with|some k=>σ' k|none=>σ id,σ.base⟩
 have NU:∀k,k<s'.length→R.idxOf? (R.getD k 0)=some k:=by
  intro k hk
  have e1:=Q4 k hk
  obtain⟨l1,g1⟩:=List.getElem?_eq_some_iff.1 e1
  rw[List.idxOf?_eq_some_iff]
  refine⟨l1,by simp [g1],fun j hj=>?_⟩
  have SQ:j<R.length:=by omega
  intro hb
  have Ld:R[j]=R.getD k 0:=by simpa using hb
  have:=(List.getElem_inj S6).1 (Ld.trans g1.symm)
  omega
 have AM:∀k,k<s'.length→σn (R.getD k 0)=σ' k:=fun k hk=>by
  show (match R.idxOf? (R.getD k 0) with|some k=>σ' k|none=>σ (R.getD k 0))=σ' k
  rw[NU k hk]
 have BK:∀id,id ∉ R→σn id=σ id:=fun id dB=>by
  show (match R.idxOf? id with|some k=>σ' k|none=>σ id)=σ id
  rw[List.idxOf?_eq_none_iff.2 dB]
 have mR:∀id,id∈R→∃k,k<s'.length∧id=R.getD k 0:=by
  intro id dB
  obtain⟨k,hk⟩:=List.mem_iff_getElem?.1 dB
  have aT:=(List.getElem?_eq_some_iff.1 hk).1
  exact⟨k,by omega,by simp [List.getD,hk]⟩
 have th:(s++List.replicate (s'.length-exts.length) hole).length=s.length+(s'.length-exts.length):=by simp
 have Ek:∀(k:Nat) (o:Obj),s'[k]?=some o→(bm (s++List.replicate (s'.length-exts.length) hole) R (s'.map (ct R)))[R.getD k 0]?=some (ct R o):=by
  intro k o ho
  have aT:k<s'.length:=(List.getElem?_eq_some_iff.1 ho).1
  exact se R _ _ k _ _ S6 (Q4 k aT) (by rw[VB,ho];rfl) (by rw[th];exact Se k aT)
 have pN:∀id,id ∉ R→(bm (s++List.replicate (s'.length-exts.length) hole) R (s'.map (ct R)))[id]?=s[id]?:=fun id dB=>by
  rw[fH R _ _ id dB]
  rcases VX id s.length with h1|h1
  ·rw[VH h1]
  ·rw[Wb h1]
   refine Wb ?_
   rw[th]
   rcases VX id (s.length+(s'.length-exts.length)) with h2|h2
   ·exfalso
    apply dB
    have e1:=Oe (exts.length+(id-s.length)) (by omega) (by omega)
    have e2:=Q4 (exts.length+(id-s.length)) (by omega)
    rw[e1]at e2
    have e3:s.length+(exts.length+(id-s.length)-exts.length)=id:=by omega
    rw[e3]at e2
    exact Vy e2
   ·exact h2
 have Ox:∀id o,id∈R→s[id]?=some o→∃k,k<exts.length∧id=R.getD k 0∧id=ρ.getD k 0:=by
  intro id o dB ho
  obtain⟨k,hk,rfl⟩:=mR id dB
  rcases VX k exts.length with h1|h1
  ·exact⟨k,h1,rfl,Iy k h1⟩
  ·rw[Oe k h1 hk]at ho
   have:=(List.getElem?_eq_some_iff.1 ho).1
   omega
 have rK:∀(k:Nat) (o:Obj),k<s'.length→(bm (s++List.replicate (s'.length-exts.length) hole) R (s'.map (ct R)))[R.getD k 0]?=some o→∃o',s'[k]?=some o'∧o=ct R o':=by
  intro k o aT ho
  have cn:k<s'.length:=by omega
  have:=Ek k s'[k] (by simp [cn])
  rw[ho]at this
  exact⟨s'[k],by simp [cn],by simpa using this⟩
 have gn:∀b,b<w.heap.size→Own σ s b→¬oU b→w'.heap[b]?=w.heap[b]?:=fun b hb h1 h2=>hE.gn b hb ⟨h1,h2⟩
 have wU:∀b,σ.base b→¬oU b:=by
  rintro b hb ⟨k,base,aT,h3⟩
  exact hI.apart _ _ b base (Eb k aT) h3 hb
 have nR:∀id o b base,id ∉ R→s[id]?=some o→σ id=some (b,base)→o.live=true→¬oU b:=by
  rintro id o b base dB ho h1 Bk ⟨k,cj,aT,h3⟩
  have:=hI.inj id _ o _ b base cj ho (Eb k aT) Bk h1 h3
  exact dB (by rw[this,← Iy k aT];exact Vy (Q4 k (by omega)))
 have JL:∀b,Own σn (bm (s++List.replicate (s'.length-exts.length) hole) R (s'.map (ct R))) b→Own σ' s' b:=by
  rintro b (hb|⟨id,o,base,h1,h2,h3⟩)
  ·left;rw[hE.base];exact⟨.inl hb,wU b hb⟩
  ·by_cases dB:id∈R
   ·obtain⟨k,aT,rfl⟩:=mR id dB
    obtain⟨o',g1,rfl⟩:=rK k o aT h1
    rw[AM k aT]at h3
    exact .inr ⟨k,o',base,g1,h2,h3⟩
   ·rw[pN id dB]at h1
    rw[BK id dB]at h3
    left;rw[hE.base]
    exact⟨.inr ⟨id,o,base,h1,h2,h3⟩,nR id o b base dB h1 h3 h2⟩
 have NL:bc σ s w σn (bm (s++List.replicate (s'.length-exts.length) hole) R (s'.map (ct R))) w':=by
  refine⟨hE.os,hE.tape,hE.output,hE.size,fun b hb ho=>hE.cc b hb fun h'=>ho (uv b h'),fun b arr E ho hh=>hE.shape b arr E (Iw b ho) hh,fun b ho hm=>hE.pF b (Iw b ho) hm,fun b hb=>?_,fun id o ho=>?_,rfl,
   fun b hb hf=>gn b hb (.inl hf) (wU b hf)⟩
  ·rcases hE.own b (JL b hb) with h'|h'
   ·exact .inl (uv b h')
   ·exact .inr h'
  ·by_cases dB:id∈R
   ·obtain⟨k,aT,eO,yw⟩:=Ox id o dB ho
    rw[yw,Eb k aT]at ho
    simp only[Option.some.injEq]at ho
    subst ho
    obtain⟨o',g1,g2,g3⟩:=hE.aF k exts[k] (by simp [aT])
    refine⟨ct R o',by rw[eO];exact Ek k o' g1,g2,fun he=>?_⟩
    obtain⟨e1,e2⟩:=g3 he
    refine⟨e1,?_⟩
    have e3:σn id=σ' k:=by rw[eO];exact AM k (by omega)
    rw[e3,e2,AX k aT,yw]
   ·exact⟨o,by rw[pN id dB];exact ho,VA _,fun _=>⟨rfl,BK id dB⟩⟩
 have up:∀{x:V}{u:Value},aJ σ' s' w' x u→aJ σn (bm (s++List.replicate (s'.length-exts.length) hole) R (s'.map (ct R))) w' (bu R x) u:=fun hr =>
  Kb JL Ek (fun k hk=>AM k (by omega)) hr
 have hIn:Inv σn (bm (s++List.replicate (s'.length-exts.length) hole) R (s'.map (ct R))) w':=by
  refine⟨fun id o ho=>?_,fun id jJ o o' b base cj h1 h2 h3 h4 h5=>?_,fun b hb=>Nat.lt_of_lt_of_le (hI.low b hb) hE.size,fun id o b base h1 h2 hb=>?_⟩
  ·by_cases dB:id∈R
   ·obtain⟨k,aT,rfl⟩:=mR id dB
    obtain⟨o',g1,rfl⟩:=rK k o aT ho
    rw[AM k aT]
    rcases jF.content k o' g1 with c1|⟨b,base,arr,E,c1,c2,c3,c4,c5⟩
    ·exact .inl c1.up
    ·refine .inr ⟨b,base,arr,E,c1,c2,fun e he=>?_,by simpa [ct]using c4,fun i j y hy=>?_⟩
     ·obtain⟨e',vj,rfl⟩:=List.mem_map.1 he
      rw[gM]
      simpa [ct]using c3 e' vj
     ·obtain⟨x,hx,rfl⟩:=BA hy
      obtain⟨u,k1,k2,k3⟩:=c5 i j x hx
      exact⟨u,k1,k2,up k3⟩
   ·rw[pN id dB]at ho
    rw[BK id dB]
    refine rq.bM (p:=σ id) NL (fun b base hb=>?_) (hI.content id o ho)
    have aT:=hI.lt ho hb
    by_cases hO:Own σ s b
    ·by_cases Bk:o.live=true
     ·exact gn b aT hO (nR id o b base dB ho hb Bk)
     ·exfalso
      rcases hO with hO|⟨jJ,o',cj,g1,g2,g3⟩
      ·exact hI.apart id o b base ho hb hO
      ·have:=hI.inj jJ id o' o b cj base g1 ho g2 g3 hb
       subst this
       rw[ho]at g1;cases g1
       exact Bk g2
    ·exact hE.cc b aT fun h'=>hO (uv b h')
  ·by_cases dB:id∈R <;> by_cases r9:jJ∈R
   ·obtain⟨k,aT,rfl⟩:=mR id dB
    obtain⟨k',cn,rfl⟩:=mR jJ r9
    obtain⟨p,g1,rfl⟩:=rK k o aT h1
    obtain⟨p',Ny,rfl⟩:=rK k' o' cn h2
    rw[AM k aT]at h4
    rw[AM k' cn]at h5
    rw[jF.inj k k' p p' b base cj g1 Ny h3 h4 h5]
   ·exfalso
    obtain⟨k,aT,rfl⟩:=mR id dB
    obtain⟨p,g1,rfl⟩:=rK k o aT h1
    rw[AM k aT]at h4
    rw[pN jJ r9]at h2
    rw[BK jJ r9]at h5
    have Jo:=hI.lt h2 h5
    have hO:Own σ s b:=by
     rcases hE.own b (.inr ⟨k,p,base,g1,h3,h4⟩) with h'|h'
     ·exact uv b h'
     ·omega
    by_cases Bk:o'.live=true
    ·exact jF.apart k p b base g1 h4 (by rw[hE.base];exact⟨hO,nR jJ o' b cj r9 h2 h5 Bk⟩)
    ·rcases hO with hO|⟨RJ,o2,Ky,q1,q2,q3⟩
     ·exact hI.apart jJ o' b cj h2 h5 hO
     ·have:=hI.inj RJ jJ o2 o' b Ky cj q1 h2 q2 q3 h5
      subst this
      rw[h2]at q1;cases q1
      exact Bk q2
   ·exfalso
    obtain⟨k',cn,rfl⟩:=mR jJ r9
    obtain⟨p',Ny,rfl⟩:=rK k' o' cn h2
    rw[AM k' cn]at h5
    rw[pN id dB]at h1
    rw[BK id dB]at h4
    exact jF.apart k' p' b cj Ny h5 (by rw[hE.base];exact⟨.inr ⟨id,o,base,h1,h3,h4⟩,nR id o b base dB h1 h4 h3⟩)
   ·rw[pN id dB]at h1
    rw[pN jJ r9]at h2
    rw[BK id dB]at h4
    rw[BK jJ r9]at h5
    exact hI.inj id jJ o o' b base cj h1 h2 h3 h4 h5
  ·by_cases dB:id∈R
   ·obtain⟨k,aT,rfl⟩:=mR id dB
    obtain⟨p,g1,rfl⟩:=rK k o aT h1
    rw[AM k aT]at h2
    exact jF.apart k p b base g1 h2 (by rw[hE.base];exact⟨.inl hb,wU b hb⟩)
   ·rw[pN id dB]at h1
    rw[BK id dB]at h2
    exact hI.apart id o b base h1 h2 hb
 exact⟨u,bu R v,σn,_,he,NL,hIn,up hR,hK⟩
def HN (cL:Nat) (s:List Obj) (o:Obj):Option Obj:=(o.aL.mapM (aZ.go cL s)).map fun aL=>{ o with aL:=aL }
theorem tU {α β:Type}{f:α→Option β}:∀{l:List α}{r:List β},l.mapM f=some r→r.length=l.length∧(∀(i:Nat) (y:β),r[i]?=some y→∃x,l[i]?=some x∧f x=some y)∧∀(i:Nat) (x:α),l[i]?=some x→∃y,r[i]?=some y∧f x=some y
 |[],r,h=>by simp at h;subst h;simp
 |a::l,r,h=>by
  simp only[Wz,Option.bind_eq_bind,Option.pure_def]at h
  cases ha:f a with
  |none=>rw[ha]at h;simp at h
  |some b =>
   rw[ha]at h
   cases hl:l.mapM f with
   |none=>rw[hl]at h;simp at h
   |some bs =>
    rw[hl]at h
    simp only[Wd,Option.some.injEq]at h
    subst h
    obtain⟨k1,k2,k3⟩:=tU hl
    refine⟨by simp [k1],fun i y hy=>?_,fun i x hx=>?_⟩
    ·cases i with
     |zero=>simp at hy;subst hy;exact⟨a,rfl,ha⟩
     |succ i=>simpa using k2 i y (by simpa using hy)
    ·cases i with
     |zero=>simp at hx;subst hx;exact⟨b,rfl,ha⟩
     |succ i=>simpa using k3 i x (by simpa using hx)
theorem qP {cL:Nat}{s:List Obj}{o o':Obj} (h:HN cL s o=some o'):o'.g=o.g∧o'.live=o.live∧o'.sz=o.sz∧o.aL.mapM (aZ.go cL s)=some o'.aL:=by
 unfold HN at h
 obtain⟨aL,h1,rfl⟩:=Option.map_eq_some_iff.1 h
 exact⟨rfl,rfl,rfl,h1⟩
theorem J1 {σ:Gh}{s sF:List Obj}{w:World}{cL:Nat} (hI:Inv σ s w) (h:(s.take cL).mapM (HN cL s)=some sF):bc σ (s.take cL) w σ sF w∧Inv σ sF w:=by
 obtain⟨m1,m2,m3⟩:=tU h
 have tZ:∀b,Own σ sF b→Own σ (s.take cL) b:=by
  rintro b (hb|⟨id,o,base,h1,h2,h3⟩)
  ·exact .inl hb
  ·obtain⟨o0,k1,k2⟩:=m2 id o h1
   obtain⟨_,e2,_,_⟩:=qP k2
   exact .inr ⟨id,o0,base,k1,by rw[← e2];exact h2,h3⟩
 have hE:bc σ (s.take cL) w σ sF w:=by
  refine⟨rfl,rfl,rfl,VA _,fun _ _ _=>rfl,fun _ arr _ _ h=>⟨arr,h,rfl⟩,fun _ _ h=>h,fun b hb=>.inl (tZ b hb),fun id o ho=>?_,rfl,fun _ _ _=>rfl⟩
  obtain⟨o',k1,k2⟩:=m3 id o ho
  obtain⟨e1,_,e3,_⟩:=qP k2
  exact⟨o',k1,by omega,fun _=>⟨e3,rfl⟩⟩
 have get:∀(id:Nat) (o:Obj),(s.take cL)[id]?=some o→s[id]?=some o:=by
  intro id o hh
  rw[VW]at hh
  split at hh
  ·exact hh
  ·cases hh
 refine⟨hE,fun id o ho=>?_,fun id jJ o o' b base cj h1 h2 h3 h4 h5=>?_,hI.low,fun id o b base h1 h2=>?_⟩
 ·obtain⟨o0,k1,k2⟩:=m2 id o ho
  obtain⟨e1,e2,e3,e4⟩:=qP k2
  obtain⟨n1,n2,n3⟩:=tU e4
  rcases hI.content id o0 (get _ _ k1) with (⟨h1,h2⟩|⟨b,es,c,h1,h2,h3⟩)|⟨b,base,arr,E,h1,h2,h3,h4,h5⟩
  ·exact .inl (.inl ⟨h1,VD (by rw[n1,h2];rfl)⟩)
  ·refine .inl (.inr ⟨b,es,c,h1,h2,?_⟩)
   rw[← h3]
   refine List.ext_getElem? fun i=>?_
   cases hi:o0.aL[i]? with
   |none =>
    have:=List.getElem?_eq_none_iff.1 hi
    exact Wb (by omega)
   |some x =>
    obtain⟨y,y1,y2⟩:=n3 i x hi
    rw[y1]
    have hx:=hi
    rw[h3]at hx
    unfold iP at hx
    rw[VB]at hx
    obtain⟨en,_,rfl⟩:=Option.map_eq_some_iff.1 hx
    simp only[aZ.go,aZ,Option.some.injEq]at y2
    rw[← y2]
  ·refine .inr ⟨b,base,arr,E,h1,h2,fun e he=>?_,by rw[n1,e3];exact h4,fun i j y hy=>?_⟩
   ·obtain⟨i,hi⟩:=List.mem_iff_getElem?.1 he
    obtain⟨x,x1,x2⟩:=n2 i e hi
    rw[(nS x2).1,e3]
    exact h3 x (Vy x1)
   ·cases xC:o.aL[i]? with
    |none=>rw[xC]at hy;cases hy
    |some e =>
     rw[xC]at hy
     obtain⟨x,x1,x2⟩:=n2 i e xC
     obtain⟨v,v1,v2⟩:=(nS x2).2 j y hy
     obtain⟨u,u1,u2,u3⟩:=h5 i j v (by rw[x1];exact v1)
     exact⟨u,by rw[e3];exact u1,u2,(lA hI u3 v2).bM hE⟩
 ·obtain⟨a,k1,k2⟩:=m2 id o h1
  obtain⟨a',TY,QR⟩:=m2 jJ o' h2
  exact hI.inj id jJ a a' b base cj (get _ _ k1) (get _ _ TY) (by rw[← (qP k2).2.1];exact h3) h4 h5
 ·obtain⟨a,k1,k2⟩:=m2 id o h1
  exact hI.apart id a b base (get _ _ k1) h2
def AZ (cL:Nat) (s:List Obj) (r:V) (K:V→List Obj→Prop):Prop :=
 match (s.take cL).mapM (HN cL s),aZ cL s r with
 |some sF,some r'=>K r' sF
 |_,_=>False
def JN (P:Program) (rs:List ResultVar) (cL:Nat) (K:V→List Obj→Prop) (ex:Exit) (e:Env) (s:List Obj):Prop:=vN ex∧xm P rs e s fun r=>AZ cL s r K
theorem I7 {P : Program} {f : FuncId} {fn : Func} {c : Code} {args : List V} {exts : List Obj} {K : V → List Obj → Prop} (hf : P.funcs[f]? = some fn) (hb : fn.body = some c) {N : Nat} (hN : fn.ntmps = N) {rs : Array ResultVar} (Ps : fn.results = rs) (hn : (fn.name != "runtime.NumGoroutine") = true)
  (cL M:Nat) (hl:exts.length≤cL) (ha:args.length≤N)
  (h:codeWp P N cL M c (JN P rs.toList cL K) (jt args) exts):az P f args exts K:=by
 subst hN;subst Ps
 refine⟨by simp only[Ii,hf,hn,hb,Option.isSome_some,Bool.and_self],fun σ w vals hI OY hv=>?_⟩
 refine calls_of_wp hf hb ?_
 have hR:fK σ exts w fn.ntmps (jt args) { tmps:=vals++Array.replicate (fn.ntmps-vals.size) undef,defers:=[] }:=by
  refine⟨rfl,by simp;omega,fun t=>?_⟩
  rw[qN]
  by_cases ht:t<args.length
  ·have h1:=hv t args[t] (by simp [ht])
   have:(vals++Array.replicate (fn.ntmps-vals.size) undef).getD t undef=vals.getD t undef:=by
    rw[VI,Array.getElem?_append_left (by omega),VI]
   rw[this]
   simpa [ht]using h1
  ·have:(vals++Array.replicate (fn.ntmps-vals.size) undef).getD t undef=undef:=by
    rw[VI,Array.getElem?_append_right (by omega),Array.getElem?_replicate]
    split <;> rfl
   rw[this]
   simp [ht]
   exact .un
 refine wp_mono (dJ hl c _ (jt args) exts σ w _ (bc.refl _ _ _) hI hR h) fun ex a' w' ⟨e',σ',s',hE,jF,oN,hex,hq⟩=>?_
 obtain⟨v,u,k1,k2,k3⟩:=pb jF oN hq
 unfold AZ at k3
 have fin:a'.defers=[]∧∃v,(results fn a'.tmps).run P w'=.ok v w'∧∃u MM wJ tj,Ending.returned v=.returned u∧bc σ exts w wJ tj w'∧Inv wJ tj w'∧aJ wJ tj w' MM u∧K MM tj:=by
  refine⟨oN.1,u,k1,?_⟩
  split at k3
  ·rename_i sF r' UE Lf
   obtain⟨q1,q2⟩:=J1 jF UE
   exact⟨u,r',σ',sF,rfl,(hE.take hl).trans q1,q2,(lA jF k2 Lf).bM q1,k3⟩
  ·exact k3.elim
 rcases uV hex with rfl|rfl
 ·exact fin
 ·exact fin
def Ma:V→V
 |.pp _ _ _ _ b a=>.d (.sc (.pointer (some ⟨b,a,none⟩)))
 |v=>v
theorem HK {σ:Gh}{s:List Obj}{w:World}{x:V}{u:Value} (h:aJ σ s w x u):aJ σ s w (Ma x) u:=by
 unfold Ma
 split
 ·rw[h.wV];exact .d (.sc _ rfl)
 ·exact h
theorem Kk {P:Program}{f:FuncId}{args:List V}{s:List Obj}{K:V→List Obj→Prop} (h:az P f (args.map Ma) s K):az P f args s K:=by
 refine⟨h.1,fun σ w vals hI hl hv=>h.2 σ w vals hI (by simpa using hl) fun i x hx=>?_⟩
 rw[VB]at hx
 obtain⟨y,hy,rfl⟩:=Option.map_eq_some_iff.1 hx
 exact HK (hv i y hy)
open Go.ChangeShapes Go.WideShapes Go.ChangeAt Go.RowKit
def ML:Gh:=⟨fun _=>none,fun _=>False⟩
theorem Ql (b:Nat):¬Own ML [] b:=by
 rintro (h|⟨id,o,base,h1,_⟩)
 ·exact h
 ·simp at h1
theorem N0 (w:World):Inv ML [] w :=
 ⟨fun id o h=>by simp at h,fun id jJ o o' b base cj h=>by simp at h,fun b h=>h.elim,fun id o b base h=>by simp at h⟩
theorem run_pure {P:Program}{f:FuncId}{args:List V}{r:Bool}{vals:Array Value}{W:World} (h:bI P f args (.d (.sc (.bool r)))) (hv:vals.size=args.length) (hrep:∀(i:Nat) (x:V),args[i]?=some x→aJ ML [] W x (vals.getD i undef)) :
  Calls P f vals W fun e w'=>e=.returned (.bool r)∧Below W.heap.size W w':=by
 refine(h.2 ML W vals (N0 W) hv hrep).mono fun e w' ⟨u,v,σ',s',h1,h2,h3,h4,h5,h6⟩=>?_
 subst h5
 cases h4 with|d h4=>?_
 cases h4 with|sc _ _=>?_
 exact⟨h1,h2.os,h2.tape,h2.output,h2.size,fun b hb=>h2.cc b hb (Ql b)⟩
theorem FP {W:World} (k:IntKind) (n:Int):aJ ML [] W (.d (.sc (.int k n))) (.int k n):=.d (.sc _ rfl)
theorem JW {W:World}{a:Addr}{len cap:Nat}{zs:List Int}{k:IntKind} (hl:len≤cap) (hz:zs.length=cap) (vh:∀i,i<zs.length→W.cell? (a.add i)=some (.int k (zs.getD i 0))) :
  aJ ML [] W (.d (.sl ((zs.take len).map fun x=>[D.sc (.int k x)]))) (.slice (some a) len cap):=by
 have hlen:((zs.take len).map fun x=>[D.sc (Value.int k x)]).length=len:=by simp;omega
 have kx:=du.sl (O:=Own ML []) (w:=W) ((zs.take len).map fun x=>[D.sc (.int k x)]) a cap 1 (fun i _=>.int k (zs.getD i 0)) (by rw[hlen];exact hl)
  (fun gf=>by
   have:0<len:=by
    rcases Nat.eq_zero_or_pos len with h|h
    ·subst h;simp at gf
    ·exact h
   have:=World.cell?_spot (vh 0 (by omega))
   simpa [Addr.add]using this)
  (fun e he=>by obtain⟨x,_,rfl⟩:=List.mem_map.1 he;rfl)
  (fun i j x hx=>by
   simp only[VB]at hx
   cases hi:(zs.take len)[i]? with
   |none=>simp [hi]at hx
   |some y =>
    simp only[hi,Wc,Wd]at hx
    have hj:j=0:=by cases j with|zero=>rfl|succ j=>simp at hx
    subst hj
    have Sn:i<len∧i<zs.length:=by
     have:=(List.getElem?_eq_some_iff.1 hi).1
     simp at this;omega
    refine⟨?_,Ql _⟩
    have eD:=World.cell?_spot (vh 0 (by omega))
    have hc:=vh i Sn.2
    obtain⟨b,off,sp⟩:=a
    have RO:sp=none:=by simpa [Addr.add]using eD
    subst RO
    rw[add_plain]at hc
    simpa using hc)
  (fun i j x hx=>by
   simp only[VB]at hx
   cases hi:(zs.take len)[i]? with
   |none=>simp [hi]at hx
   |some y =>
    simp only[hi,Wc,Wd]at hx
    have hj:j=0:=by cases j with|zero=>rfl|succ j=>simp at hx
    subst hj
    simp only[VQ,Option.some.injEq]at hx
    subst hx
    have Sn:i<len∧i<zs.length:=by
     have:=(List.getElem?_eq_some_iff.1 hi).1
     simp at this;omega
    have hy:zs.getD i 0=y:=by
     rw[VW,if_pos Sn.1]at hi
     simp [List.getD,hi]
    rw[hy]
    exact .sc _ rfl)
 rw[hlen]at kx
 exact .d kx
open Go.ChangeShapes Go.WideShapes Go.ChangeAt Go.RowKit
theorem DW {H:Type}{enc:TypeId×Value→H}{P:Program}{W:World}{t e:TypeId}{k:IntKind}{a0:Option Addr}{len cap:Nat}{d:DataW H}{ps:List MemPlace} (ht:P.underlying t=some (.slice e)) (he:P.underlying e=some (.int k)) (hc:P.cellsOf e=1)
  (h:DataW.Trod enc P W 0 (fun _=>true) true t (.slice a0 len cap) d ps) :
  ∃l:List Int,(∀x∈l,(Lit.int k x).wf=true)∧aJ ML [] W (.d (.sl (l.map fun x=>[D.sc (.int k x)]))) (.slice a0 len cap):=by
 obtain⟨Ts,hf⟩:=h
 rcases open_ints ht he hc hf with ⟨mW,hx⟩|⟨a,TW,lJ,zs,mW,_,hl,hm,hz,hx,vh,Ui⟩
 ·simp [Value.cells]at mW
  obtain⟨rfl,rfl,rfl⟩:=mW
  exact⟨[],fun x hx=>by (cases hx),.d .nil⟩
 ·simp [Value.cells]at mW
  obtain⟨rfl,rfl,rfl⟩:=mW
  simp only[if_true]at hz
  exact⟨zs.take len,fun x hx=>Ui x (Wo hx),JW hl hz vh⟩
section
variable {H:Type}{enc:TypeId×Value→H}{P:Program}{w:World}{base:Nat}{spare:Nat→Bool}{held:Bool}
end
end Go.VL
