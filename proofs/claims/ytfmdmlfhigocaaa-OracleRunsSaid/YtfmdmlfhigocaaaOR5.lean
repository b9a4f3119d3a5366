/- A part of the proof (Vi Vj). -/
import Derived.Test.YtfmdmlfhigocaaaOR4
set_option linter.unusedSimpArgs false
set_option linter.unusedVariables false
set_option maxRecDepth 100000
set_option maxHeartbeats 80000000
namespace Go.VL
variable{σ:Gh}{w:World}{u:Value}{s:List Obj}{P:Program}{t:TypeId}{e:TypeId}{ux:Value}{K:V->Prop}{x:V}{k:IntKind}{u0:Value}{e0:V}{f:FuncId}{o:Oper}{a:Act}{N:Nat}
def iw (op:BinOp) (k:IntKind) (a b:Int):Int :=
 k.wrap (match op with
  |.and=>(BitVec.ofInt k.bits a &&& BitVec.ofInt k.bits b).toNat
  |.or=>(BitVec.ofInt k.bits a ||| BitVec.ofInt k.bits b).toNat
  |.xor=>(BitVec.ofInt k.bits a ^^^ BitVec.ofInt k.bits b).toNat
  |_=>(BitVec.ofInt k.bits a &&& ~~~BitVec.ofInt k.bits b).toNat)
def fv (op:BinOp) (k:IntKind) (a b:Int) (K:V->Prop):Prop :=
 match op with
 |.add=>K (.d (.sc (.int k (k.wrap (a+b)))))
 |.sub=>K (.d (.sc (.int k (k.wrap (a-b)))))
 |.mul=>K (.d (.sc (.int k (k.wrap (a*b)))))
 |.quo=>b≠0/\K (.d (.sc (.int k (k.wrap (a.tdiv b)))))
 |.rem=>b≠0/\K (.d (.sc (.int k (a.tmod b))))
 |.and=>K (.d (.sc (.int k (iw .and k a b))))
 |.or=>K (.d (.sc (.int k (iw .or k a b))))
 |.xor=>K (.d (.sc (.int k (iw .xor k a b))))
 |.eql=>K (.d (.sc (.bool (decide (a=b)))))
 |.neq=>K (.d (.sc (.bool (!decide (a=b)))))
 |.lss=>K (.d (.sc (.bool (decide (a<b)))))
 |.leq=>K (.d (.sc (.bool (decide (a<=b)))))
 |.gtr=>K (.d (.sc (.bool (decide (b<a)))))
 |.geq=>K (.d (.sc (.bool (decide (b<=a)))))
 |_=>False
def qn (s:List Obj):V->Prop
 |.d (.el _)=>True
 |.rf id g _ _=>wo s id g λ_=>True
 |.pp id g _ _ _ _=>wo s id g λ_=>True
 |_=>False
def jo (P:Program) (t:TypeId):Option (Nat×IntKind) :=
 match P.underlying t with
 |some (.array n e)=>match P.underlying e with
  |some (.int k)=>if (P.info? e).isSome=true/\P.cellsOf e=1/\P.eqGuardType P.depth t=false then some (n,k) else none
  |_=>none
 |_=>none
def VX (P:Program) (t:TypeId):Option IntKind :=
 match P.underlying t with
 |some (.struct fields)=>match fields.toList with
  |[a,b,c]=>match P.underlying a.type,P.underlying b.type,P.underlying c.type with
   | some (.int k), some (.int k'), some (.int k'') => if (k' = k ∧ k'' = k ∧ a.offset = 0 ∧ b.offset = 1 ∧ c.offset = 2) ∧ (a.name ≠ "_" ∧ b.name ≠ "_" ∧ c.name ≠ "_") ∧ P.stoodInHeld t = false ∧ P.eqGuardType P.depth t = false then some k else none
   |_,_,_=>none
  |_=>none
 |_=>none
def kq (P:Program) (op:BinOp) (t:TypeId) (xs ys:List V) (K:V->Prop):Prop :=
 match xs,ys with
 |[.d (.sc (.int k1 a)),.d (.sc (.int k2 b))],[.d (.sc (.int k3 c)),.d (.sc (.int k4 d))]=>(jo P t=some (2,k1)/\k2=k1/\k3=k1/\k4=k1)/\match op with
  |.eql=>K (.d (.sc (.bool (a == c&&b == d))))
  |.neq=>K (.d (.sc (.bool (!(a == c&&b == d)))))
  |_=>False
 |[.d (.sc (.int k1 a)),.d (.sc (.int k2 b)),.d (.sc (.int k3 c))],[.d (.sc (.int k4 a')),.d (.sc (.int k5 b')),.d (.sc (.int k6 c'))]=>(VX P t=some k1/\k2=k1/\k3=k1/\k4=k1/\k5=k1/\k6=k1)/\match op with
  |.eql=>K (.d (.sc (.bool (a == a'&&(b == b'&&c == c')))))
  |_=>False
 |_,_=>False
def dG (P:Program) (op:BinOp) (t:TypeId) (s:List Obj) (x y:V) (K:V->Prop):Prop :=
 match x,y with
 |.d (.sc (.int k a)),.d (.sc (.int k' b))=>k=k'/\fv op k a b K
 |.d (.sc (.bool a)),.d (.sc (.bool b))=>P.underlying t=some .bool/\match op with
  |.eql=>K (.d (.sc (.bool (a == b))))
  |.neq=>K (.d (.sc (.bool (!(a == b)))))
  |_=>False
 |.d (.sc (.pointer none)),.d (.sc (.pointer none))=>(∃e,P.underlying t=some (.pointer e))/\match op with
  |.eql=>K (.d (.sc (.bool true)))
  |.neq=>K (.d (.sc (.bool false)))
  |_=>False
 |.ag xs,.ag ys=>kq P op t xs ys K
 |p,.d (.sc (.pointer none))=>qn s p/\(∃e,P.underlying t=some (.pointer e))/\match op with
  |.eql=>K (.d (.sc (.bool false)))
  |.neq=>K (.d (.sc (.bool true)))
  |_=>False
 |_,_=>False
def Su:Operand->Bool
 |.const (.slice none 0 0)=>true
 |_=>false
def eI (P:Program) (op:BinOp) (t:TypeId) (s:List Obj) (x:V) (K:V->Prop):Prop :=
 (∃e,P.underlying t=some (.slice e))/\op=.eql/\match x with
  |.d (.sl [])=>K (.d .ub)
  |.d (.sl (_::_))=>K (.d (.sc (.bool false)))
  |.fu []=>K (.d .ub)
  |.fu (_::_)=>K (.d (.sc (.bool false)))
  |.so id g _ 0=>wo s id g λ_=>K (.d .ub)
  |.so id g _ (_+1)=>wo s id g λ_=>K (.d (.sc (.bool false)))
  |_=>False
theorem NL{p:V} (hp:aC σ s w p u) (h:qn s p):∃a,u=.pointer (some a):=by
 unfold qn at h;split at h
 ·cases hp with|d hx=>?_
  cases hx with|el _ a _ _ _ _=>exact⟨a,rfl⟩
 ·obtain⟨o,ho,hg,_⟩:=eQ h;obtain⟨b,base,_,_,rfl⟩:=Of hp ho hg;exact⟨_,rfl⟩
 ·exact⟨_,hp.Ib⟩
 ·exact h.elim
theorem run_equal_bool (hu:P.underlying t=some .bool) (a b:Bool) (w:World):(Op.equal t (.bool a) (.bool b)).run P w=.ok (a == b) w:=by
 have h:∀d:Nat,(Op.equalIn (d+1) t (.bool a) (.bool b)).run P w=.ok (a == b) w:=λd=>by simp [Op.equalIn,run_underlying hu]
 exact h 9999
theorem FZ (hu:P.underlying t=some (.pointer e)) (w:World):(Op.equal t (.pointer none) (.pointer none)).run P w=.ok true w:=by
 have h:∀d:Nat,(Op.equalIn (d+1) t (.pointer none) (.pointer none)).run P w=.ok true w:=λd=>by simp [Op.equalIn,run_underlying hu]
 exact h 9999
theorem FI (hu:P.underlying t=some (.pointer e)) (a:Addr) (w:World):(Op.equal t (.pointer (some a)) (.pointer none)).run P w=.ok false w:=by
 have h:∀d:Nat,(Op.equalIn (d+1) t (.pointer (some a)) (.pointer none)).run P w=.ok false w:=λd=>by simp [Op.equalIn,run_underlying hu]
 exact h 9999
theorem yG (hu:P.underlying t=some .bool) (a b:Bool) (w:World) (xo yo:Operand) :
  (do eqGuard .eql t xo yo (.bool a) (.bool b);binOp .eql t (.bool a) (.bool b):Sem Value).run P w=.ok (.bool (a == b)) w /\
  (do eqGuard .neq t xo yo (.bool a) (.bool b);binOp .neq t (.bool a) (.bool b):Sem Value).run P w=.ok (.bool (!(a == b))) w:=by
 have h:=run_equal_bool hu a b w;constructor <;> simp only[eqGuard,binOp,Sem.run_bind,Sem.run_pure,h,Result.andThen_ok,aje,ajf,if_false]
theorem BN (hu:P.underlying t=some (.pointer e)) (w:World) (xo yo:Operand) :
  (do eqGuard .eql t xo yo (.pointer none) (.pointer none);binOp .eql t (.pointer none) (.pointer none):Sem Value).run P w=.ok (.bool true) w /\
  (do eqGuard .neq t xo yo (.pointer none) (.pointer none);binOp .neq t (.pointer none) (.pointer none):Sem Value).run P w=.ok (.bool false) w:=by
 have h:=FZ hu w;constructor <;> simp only[eqGuard,binOp,Sem.run_bind,Sem.run_pure,h,Result.andThen_ok,aje,ajf,if_false]
theorem Bw (hu:P.underlying t=some (.pointer e)) (a:Addr) (w:World) (xo yo:Operand) :
  (do eqGuard .eql t xo yo (.pointer (some a)) (.pointer none);binOp .eql t (.pointer (some a)) (.pointer none):Sem Value).run P w=.ok (.bool false) w /\
  (do eqGuard .neq t xo yo (.pointer (some a)) (.pointer none);binOp .neq t (.pointer (some a)) (.pointer none):Sem Value).run P w=.ok (.bool true) w:=by
 have h:=FI hu a w;constructor <;> simp only[eqGuard,binOp,Sem.run_bind,Sem.run_pure,h,Result.andThen_ok,aje,ajf,if_false,ajd]
theorem Cn (hu:P.underlying t=some (.slice e)) (a:Option Addr) (n c:Nat) (w:World):(Op.equal t (.slice a n c) (.slice none 0 0)).run P w=.ok a.isNone w:=by
 have h:∀d:Nat,(Op.equalIn (d+1) t (.slice a n c) (.slice none 0 0)).run P w=.ok a.isNone w:=λd=>by cases a <;> simp [Op.equalIn,run_underlying hu]
 exact h 9999
theorem fR (hu:P.underlying t=some (.slice e)) (a:Option Addr) (n c:Nat) (w:World) (xo yo:Operand) :
  (do eqGuard .eql t xo yo (.slice a n c) (.slice none 0 0);binOp .eql t (.slice a n c) (.slice none 0 0):Sem Value).run P w=.ok (.bool a.isNone) w:=by
 have h:=Cn hu a n c w;simp only[eqGuard,binOp,Sem.run_bind,Sem.run_pure,h,Result.andThen_ok,aje,ajf,if_false]
theorem Mh{op:BinOp}{xo yo:Operand} (hx:aC σ s w x ux) (h:eI P op t s x K) :
  ∃v c,(do eqGuard op t xo yo ux (.slice none 0 0);binOp op t ux (.slice none 0 0):Sem Value).run P w=.ok c w/\aC σ s w v c/\K v:=by
 obtain⟨⟨e,hu⟩,rfl,h⟩:=h;split at h
 ·cases hx with|d hx=>?_
  cases hx with
  |nil=>exact⟨_,_,fR hu _ _ _ w xo yo,.d (.ub _),h⟩
  |sl _ a cap sz f h1 h2 h3 h4 h5=>exact⟨_,_,fR hu _ _ _ w xo yo,.d (.ub _),h⟩
 ·cases hx with|d hx=>?_
  cases hx with
  |sl _ a cap sz f h1 h2 h3 h4 h5=>exact⟨_,_,fR hu _ _ _ w xo yo,.d (.sc _ rfl),h⟩
 ·cases hx with|fu hx=>?_
  exact⟨_,_,fR hu _ _ _ w xo yo,.d (.ub _),h⟩
 ·cases hx with|fu hx=>?_
  cases hx with
  |sl _ a cap sz f h1 h2 h3 h4 h5=>exact⟨_,_,fR hu _ _ _ w xo yo,.d (.sc _ rfl),h⟩
 ·obtain⟨o,ho,hg,hK⟩:=eQ h;cases hx with|so o' jV FO RI hk=>?_
  rw[ho]at jV;cases jV;rcases hk hg with ⟨_,⟨a,rfl⟩,_,_⟩|⟨b,bs,cp,E,arr,_,_,rfl,_⟩
  ·exact⟨_,_,fR hu _ _ _ w xo yo,.d (.ub _),hK⟩
  ·exact⟨_,_,fR hu _ _ _ w xo yo,.d (.ub _),hK⟩
 ·obtain⟨o,ho,hg,hK⟩:=eQ h;cases hx with|so o' jV FO RI hk=>?_
  rw[ho]at jV;cases jV;rcases hk hg with ⟨_,_,_,h0⟩|⟨b,bs,cp,E,arr,_,_,rfl,_⟩
  ·omega
  ·exact⟨_,_,fR hu _ _ _ w xo yo,.d (.sc _ rfl),hK⟩
 ·exact h.elim
theorem GG{n:Nat} (h:jo P t=some (n,k)):∃e i,P.underlying t=some (.array n e)/\P.underlying e=some (.int k)/\P.info? e=some i/\P.cellsOf e=1/\P.eqGuardType P.depth t=false:=by
 unfold jo at h;split at h
 ·rename_i n' e hu;split at h
  ·rename_i k' hk;split at h
   ·rename_i hc;cases h;obtain⟨i,hi⟩:=Option.isSome_iff_exists.1 hc.1;exact⟨e,i,hu,hk,hi,hc.2.1,hc.2.2⟩
   ·cases h
  ·cases h
 ·cases h
theorem FM (ha:jo P t=some (2,k)) (a b c d:Int) (w:World) :
  (Op.equal t (.agg #[.int k a,.int k b]) (.agg #[.int k c,.int k d])).run P w=.ok (a == c&&b == d) w:=by
 obtain⟨e,i,h1,h2,h3,h4,_⟩:=GG ha;have h:∀n:Nat,(Op.equalIn (n+2) t (.agg #[.int k a,.int k b]) (.agg #[.int k c,.int k d])).run P w=.ok (a == c&&b == d) w:=by
  intro n;rw[run_equalIn_array w (n+1) _ _ h1 h3,h4];have hi:∀(x y:Int),(Op.equalIn (n+1) e (.int k x) (.int k y)).run P w=.ok (x == y) w:=λx y=>by simp [Op.equalIn,run_underlying h2]
  have hp:∀(xs:Array Value) (j:Nat) (v:Value),xs[j]?=some v->(part e xs j).run P w=.ok v w:=λxs j v hv=>by simp [part,isAgg,run_underlying h2,hv]
  have r2:List.range 2=[0,1]:=rfl;rw[r2];have p0:=hp #[.int k a,.int k b] 0 (.int k a) rfl;have p1:=hp #[.int k a,.int k b] 1 (.int k b) rfl;have q0:=hp #[.int k c,.int k d] 0 (.int k c) rfl;have q1:=hp #[.int k c,.int k d] 1 (.int k d) rfl;simp only[Op.eqItems,Sem.run_bind,Nat.zero_mul,Nat.one_mul,p0,q0,hi,Result.andThen_ok];cases Je:(a == c)
  ·simp
  ·simp only[aje,ajf,if_false,Sem.run_bind,p1,q1,hi,Result.andThen_ok];cases hbd:(b == d) <;> simp
 exact h 9998
theorem HQ (h:VX P t=some k):∃fields a b c,P.underlying t=some (.struct fields)/\fields.toList=[a,b,c]/\P.underlying a.type=some (.int k)/\P.underlying b.type=some (.int k)/\P.underlying c.type=some (.int k) /\
  (a.offset = 0 ∧ b.offset = 1 ∧ c.offset = 2) ∧ (a.name ≠ "_" ∧ b.name ≠ "_" ∧ c.name ≠ "_") ∧ P.stoodInHeld t = false ∧ P.eqGuardType P.depth t = false := by
 unfold VX at h;split at h
 ·rename_i fields hu;split at h
  ·rename_i a b c hl;split at h
   ·rename_i k1 k2 k3 ha hb hc;split at h
    ·rename_i hh;cases h;obtain⟨⟨rfl,rfl,o⟩,n,s1,s2⟩:=hh;exact⟨fields,a,b,c,hu,hl,ha,hb,hc,o,n,s1,s2⟩
    ·cases h
   ·cases h
  ·cases h
 ·cases h
theorem FR (ht:VX P t=some k) (a b c a' b' c':Int) (w:World) :
  (Op.equal t (.agg #[.int k a,.int k b,.int k c]) (.agg #[.int k a',.int k b',.int k c'])).run P w=.ok (a == a'&&(b == b'&&c == c')) w:=by
 obtain⟨fields,fa,fb,fc,h1,h2,h3,h4,h5,⟨o1,o2,o3⟩,⟨n1,n2,n3⟩,s1,_⟩:=HQ ht;have hf:fields=#[fa,fb,fc]:=by rw[<- h2]
 have h:∀n:Nat,(Op.equalIn (n+2) t (.agg #[.int k a,.int k b,.int k c]) (.agg #[.int k a',.int k b',.int k c'])).run P w=.ok (a == a'&&(b == b'&&c == c')) w:=by
  intro n;have hi:∀(e:TypeId) (x y:Int),P.underlying e=some (.int k)->(Op.equalIn (n+1) e (.int k x) (.int k y)).run P w=.ok (x == y) w:=λe x y he=>by simp [Op.equalIn,run_underlying he]
  have hp:∀(e:TypeId) (xs:Array Value) (j:Nat) (v:Value),P.underlying e=some (.int k)->xs[j]?=some v->(part e xs j).run P w=.ok v w:=λe xs j v he hv=>by simp [part,isAgg,run_underlying he,hv]
  have p0:=hp fa.type #[.int k a,.int k b,.int k c] 0 (.int k a) h3 rfl;have p1:=hp fb.type #[.int k a,.int k b,.int k c] 1 (.int k b) h4 rfl;have p2:=hp fc.type #[.int k a,.int k b,.int k c] 2 (.int k c) h5 rfl;have q0:=hp fa.type #[.int k a',.int k b',.int k c'] 0 (.int k a') h3 rfl;have q1:=hp fb.type #[.int k a',.int k b',.int k c'] 1 (.int k b') h4 rfl;have q2:=hp fc.type #[.int k a',.int k b',.int k c'] 2 (.int k c') h5 rfl;have e0:=hi fa.type a a' h3;have e1:=hi fb.type b b' h4;have e2:=hi fc.type c c' h5;rw[show n+2=(n+1)+1 from rfl,Op.equalIn];subst hf;generalize (a == a')=r0 at e0 ⊢;generalize (b == b')=r1 at e1 ⊢;generalize (c == c')=r2 at e2 ⊢;simp [run_underlying h1,Sem.run_bind,s1,n1,n2,n3,o1,o2,o3,p0,p1,p2,q0,q1,q2,e0,e1,e2];cases r0 <;> cases r1 <;> cases r2 <;> simp
 exact h 9998
theorem Ro{op:BinOp}{t:TypeId}{xo yo:Operand}{xs ys:List V}{ux uy:Value} (hx:aC σ s w (.ag xs) ux) (hy:aC σ s w (.ag ys) uy) (h:kq P op t xs ys K) :
  ∃v c,(do eqGuard op t xo yo ux uy;binOp op t ux uy:Sem Value).run P w=.ok c w/\aC σ s w v c/\K v:=by
 unfold kq at h;split at h
 ·rename_i k1 a k2 b k3 c k4 d;obtain⟨⟨ha,rfl,rfl,rfl⟩,h⟩:=h;have two:∀{k:IntKind}{a b:Int}{u:Value},aC σ s w (.ag [.d (.sc (.int k a)),.d (.sc (.int k b))]) u->u=.agg #[.int k a,.int k b]:=by
   intro k a b u hu;cases hu with|ag h1 h2 h3=>?_
   rename_i arr;have e0:=h3 0 _ rfl;have e1:=h3 1 _ rfl;generalize UF:arr.getD 0 undef=v0 at e0;generalize hv1:arr.getD 1 undef=v1 at e1;cases e0 with|d e0=>?_
   cases e0 with|sc _ _=>?_
   cases e1 with|d e1=>?_
   cases e1 with|sc _ _=>?_
   congr 1;have fY:arr.size=2:=h1;apply Array.ext
   ·rw[fY];rfl
   ·intro i ql hi2;have hi:i=0\/i=1:=ae;rcases hi with rfl|rfl
    ·have:arr[0]=arr.getD 0 undef:=by simp [Array.getD,fY]
     rw[this,UF];rfl
    ·have:arr[1]=arr.getD 1 undef:=by simp [Array.getD,fY]
     rw[this,hv1];rfl
  rw[two hx,two hy];obtain⟨e,i,h1,h2,h3,h4,h5⟩:=GG ha;have hr:=FM ha a b c d w;split at h
  ·refine⟨_,_,?_,.d (.sc _ rfl),h⟩;simp [eqGuard,binOp,Sem.run_bind,hr,Result.andThen_ok,h5]
  ·refine⟨_,_,?_,.d (.sc _ rfl),h⟩;simp [eqGuard,binOp,Sem.run_bind,hr,Result.andThen_ok,h5]
  ·exact h.elim
 ·rename_i k1 a k2 b k3 c k4 a' k5 b' k6 c';obtain⟨⟨ht,rfl,rfl,rfl,rfl,rfl⟩,h⟩:=h;have three:∀{k:IntKind}{a b c:Int}{u:Value},aC σ s w (.ag [.d (.sc (.int k a)),.d (.sc (.int k b)),.d (.sc (.int k c))]) u->u=.agg #[.int k a,.int k b,.int k c]:=by
   intro k a b c u hu;cases hu with|ag h1 h2 h3=>?_
   rename_i arr;have e0:=h3 0 _ rfl;have e1:=h3 1 _ rfl;have e2:=h3 2 _ rfl;generalize UF:arr.getD 0 undef=v0 at e0;generalize hv1:arr.getD 1 undef=v1 at e1;generalize hv2:arr.getD 2 undef=v2 at e2;cases e0 with|d e0=>?_
   cases e0 with|sc _ _=>?_
   cases e1 with|d e1=>?_
   cases e1 with|sc _ _=>?_
   cases e2 with|d e2=>?_
   cases e2 with|sc _ _=>?_
   congr 1;have fY:arr.size=3:=h1;apply Array.ext
   ·rw[fY];rfl
   ·intro i ql hi2;have hi:i=0\/i=1\/i=2:=ae;rcases hi with rfl|rfl|rfl
    ·have:arr[0]=arr.getD 0 undef:=by simp [Array.getD,fY]
     rw[this,UF];rfl
    ·have:arr[1]=arr.getD 1 undef:=by simp [Array.getD,fY]
     rw[this,hv1];rfl
    ·have:arr[2]=arr.getD 2 undef:=by simp [Array.getD,fY]
     rw[this,hv2];rfl
  rw[three hx,three hy];obtain⟨_,_,_,_,_,_,_,_,_,_,_,_,h5⟩:=HQ ht;have hr:=FR ht a b c a' b' c' w;split at h
  ·refine⟨_,_,?_,.d (.sc _ rfl),h⟩;simp [eqGuard,binOp,Sem.run_bind,hr,Result.andThen_ok,h5]
  ·exact h.elim
 ·exact h.elim
theorem Np{op:BinOp}{t:TypeId}{xo yo:Operand}{y:V}{ux uy:Value} (hx:aC σ s w x ux) (hy:aC σ s w y uy) (h:dG P op t s x y K) :
  ∃v c,(do eqGuard op t xo yo ux uy;binOp op t ux uy:Sem Value).run P w=.ok c w/\aC σ s w v c/\K v:=by
 have bl:∀(b:Bool),K (.d (.sc (.bool b)))->(do eqGuard op t xo yo ux uy;binOp op t ux uy:Sem Value).run P w=.ok (.bool b) w ->
   ∃v c,(do eqGuard op t xo yo ux uy;binOp op t ux uy:Sem Value).run P w=.ok c w/\aC σ s w v c/\K v:=λb hk hr=>⟨_,_,hr,.d (.sc _ rfl),hk⟩
 unfold dG at h;split at h
 ·rename_i k a k' b;obtain⟨rfl,h⟩:=h;cases hx with|d hx=>?_
  cases hx with|sc _ _=>?_
  cases hy with|d hy=>?_
  cases hy with|sc _ _=>?_
  have it:∀(n:Int),K (.d (.sc (.int k n)))->(do eqGuard op t xo yo (.int k a) (.int k b);binOp op t (.int k a) (.int k b):Sem Value).run P w=.ok (.int k n) w ->
   ∃v c,(do eqGuard op t xo yo (.int k a) (.int k b);binOp op t (.int k a) (.int k b):Sem Value).run P w=.ok c w/\aC σ s w v c/\K v:=λn hk hr=>⟨_,_,hr,.d (.sc _ rfl),hk⟩
  cases op <;> simp only[fv]at h
  case add=>exact it _ h (by simp [eqGuard,binOp,Op.intArith])
  case sub=>exact it _ h (by simp [eqGuard,binOp,Op.intArith])
  case mul=>exact it _ h (by simp [eqGuard,binOp,Op.intArith])
  case quo=>exact it _ h.2 (by simp [eqGuard,binOp,Op.intDiv,h.1])
  case rem=>exact it _ h.2 (by simp [eqGuard,binOp,Op.intDiv,h.1])
  case and=>exact it _ h (by simp [eqGuard,binOp,Op.intBits,iw])
  case or=>exact it _ h (by simp [eqGuard,binOp,Op.intBits,iw])
  case xor=>exact it _ h (by simp [eqGuard,binOp,Op.intBits,iw])
  case eql=>exact bl _ h (by simp [eqGuard,binOp,Op.intCmp];rfl)
  case neq=>exact bl _ h (by simp [eqGuard,binOp,Op.intCmp];rfl)
  case lss=>exact bl _ h (by simp [eqGuard,binOp,Op.intCmp])
  case leq=>exact bl _ h (by simp [eqGuard,binOp,Op.intCmp])
  case gtr=>exact bl _ h (by simp [eqGuard,binOp,Op.intCmp])
  case geq=>exact bl _ h (by simp [eqGuard,binOp,Op.intCmp])
 ·rename_i a b;obtain⟨hu,h⟩:=h;cases hx with|d hx=>?_
  cases hx with|sc _ _=>?_
  cases hy with|d hy=>?_
  cases hy with|sc _ _=>?_
  split at h
  ·exact bl _ h (yG hu a b w xo yo).1
  ·exact bl _ h (yG hu a b w xo yo).2
  ·exact h.elim
 ·obtain⟨⟨e,hu⟩,h⟩:=h;cases hx with|d hx=>?_
  cases hx with|sc _ _=>?_
  cases hy with|d hy=>?_
  cases hy with|sc _ _=>?_
  split at h
  ·exact bl _ h (BN hu w xo yo).1
  ·exact bl _ h (BN hu w xo yo).2
  ·exact h.elim
 ·exact Ro hx hy h
 ·obtain⟨hp,⟨e,hu⟩,h⟩:=h;obtain⟨ad,rfl⟩:=NL hx hp;cases hy with|d hy=>?_
  cases hy with|sc _ _=>?_
  split at h
  ·exact bl _ h (Bw hu ad w xo yo).1
  ·exact bl _ h (Bw hu ad w xo yo).2
  ·exact h.elim
 ·exact h.elim
def qe:BinOp->Bool
 |.shl=>true
 |.shr=>true
 |_=>false
def shV (op:BinOp) (k:IntKind) (a b:Int):Int :=
 match op with
 |.shl=>k.wrap (a*2 ^ min b.toNat k.bits)
 |_=>a.fdiv (2 ^ min b.toNat k.bits)
def sR (op:BinOp) (x y:V) (K:V->Prop):Prop :=
 match x,y with
 |.d (.sc (.int k a)),.d (.sc (.int _ b))=>0<=b/\K (.d (.sc (.int k (shV op k a b))))
 |_,_=>False
def qP (P:Program) (op:BinOp) (t:TypeId) (s:List Obj) (x y:V) (K:V->Prop):Prop :=
 match qe op with
 |true=>sR op x y K
 |false=>dG P op t s x y K
theorem Rv{op:BinOp}{t:TypeId}{xo yo:Operand}{y:V}{ux uy:Value} (hx:aC σ s w x ux) (hy:aC σ s w y uy) (h:qP P op t s x y K) :
  ∃v c,(do eqGuard op t xo yo ux uy;binOp op t ux uy:Sem Value).run P w=.ok c w/\aC σ s w v c/\K v:=by
 unfold qP at h;split at h
 ·rename_i hs;unfold sR at h;split at h
  ·rename_i k a k' b;obtain⟨hb,h⟩:=h;cases hx with|d hx=>?_
   cases hx with|sc _ _=>?_
   cases hy with|d hy=>?_
   cases hy with|sc _ _=>?_
   have RP:¬b<0:=ae;cases op <;> simp only[qe,ajf]at hs
   ·exact⟨_,_,by simp [eqGuard,binOp,Op.shift,RP,shV],.d (.sc _ rfl),h⟩
   ·exact⟨_,_,by simp [eqGuard,binOp,Op.shift,RP,shV],.d (.sc _ rfl),h⟩
  ·exact h.elim
 ·exact Np hx hy h
def Cw (op:UnOp) (x:V) (K:V->Prop):Prop :=
 match op,x with
 |.neg,.d (.sc (.int k n))=>K (.d (.sc (.int k (k.wrap (0-n)))))
 |.not,.d (.sc (.bool b))=>K (.d (.sc (.bool !b)))
 |_,_=>False
theorem Tm{op:UnOp} (hx:aC σ s w x ux) (h:Cw op x K) :
  ∃v c,(Op.unary op ux).run P w=.ok c w/\aC σ s w v c/\K v:=by
 unfold Cw at h;split at h
 ·cases hx with|d hx=>?_
  cases hx with|sc _ _=>?_
  exact⟨_,_,by simp [Op.unary,Op.intArith],.d (.sc _ rfl),h⟩
 ·cases hx with|d hx=>?_
  cases hx with|sc _ _=>?_
  exact⟨_,_,by simp [Op.unary],.d (.sc _ rfl),h⟩
 ·exact h.elim
def qU (P:Program) (src dst:TypeId) (x:V) (K:V->Prop):Prop :=
 match x with
 |.d (.sc (.int _ n))=>match P.underlying src,P.underlying dst with
  |some (.int _),some (.int k)=>K (.d (.sc (.int k (k.wrap n))))
  |_,_=>False
 |_=>False
theorem Nv{src dst:TypeId} (hx:aC σ s w x ux) (h:qU P src dst x K) :
  ∃v c,(convert src dst ux).run P w=.ok c w/\aC σ s w v c/\K v:=by
 unfold qU at h;split at h
 case h_2=>exact h.elim
 cases hx with|d hx=>?_
 cases hx with|sc _ _=>?_
 split at h
 case h_2=>exact h.elim
 rename_i h1 h2;exact⟨_,_,by simp [convert,run_underlying h1,run_underlying h2,Conv.intToInt],.d (.sc _ rfl),h⟩
def fD (mn:Bool) (acc:V):List V->(V->Prop)->Prop
 |[],K=>K acc
 |y::rest,K=>match acc,y with
  |.d (.sc (.int k a)),.d (.sc (.int _ b))=>fD mn (.d (.sc (.int k (if mn then min a b else max a b)))) rest K
  |_,_=>False
theorem sK {P:Program}{mn:Bool}{σ:Gh}{s:List Obj}{w:World}:∀(ys:List V) (us:List Value) (acc:V) (c:Value) (K:V->Prop),aC σ s w acc c->us.length=ys.length ->
  (∀(i:Nat) (y:V),ys[i]?=some y->∃u,us[i]?=some u/\aC σ s w y u)->fD mn acc ys K ->
  ∃v r,(us.foldlM (if mn then Builtin.min2 else Builtin.max2) c).run P w=.ok r w/\aC σ s w v r/\K v
 |[],[],acc,c,K,hr,_,_,h=>⟨acc,c,aj,hr,h⟩
 |[],_::_,_,_,_,_,hl,_,_=>by simp at hl
 |_::_,[],_,_,_,_,hl,_,_=>by simp at hl
 |y::ys,u::us,acc,c,K,hr,hl,hy,h=>by
  obtain⟨u',hu,tE⟩:=hy 0 y rfl;simp only[ajv,ai5]at hu;subst hu;unfold fD at h;split at h
  ·cases hr with|d hr=>?_
   cases hr with|sc _ _=>?_
   cases tE with|d tE=>?_
   cases tE with|sc _ _=>?_
   rename_i k a k' b _ _;obtain⟨v,r,h1,h2,h3⟩:=sK (P:=P) (mn:=mn) ys us _ (.int k (if mn then min a b else max a b)) K (.d (.sc _ rfl)) (by simpa using hl) (λi z hz=>hy (i+1) z (by simpa using hz)) h;refine⟨v,r,?_,h2,h3⟩;rw[List.foldlM_cons];cases mn
   ·have:(if b>a then b else a)=max a b:=by omega
    simp only[ajf,if_false]at h1 ⊢;simp [Builtin.max2,this,h1]
   ·have:(if b<a then b else a)=min a b:=by omega
    simp only[if_true]at h1 ⊢;simp [Builtin.min2,this,h1]
  ·exact h.elim
def L3 (e0:V) (b a:Nat):V :=
 match e0 with
 |.pp id g i off b' a'=>if b'=b/\a'=a then .pp id g i off b' a' else .d (.sc (.pointer (some ⟨b,a,none⟩)))
 |_=>.d (.sc (.pointer (some ⟨b,a,none⟩)))
def dQ (e0:V):D->V
 |.sc (.pointer (some ⟨b,a,none⟩))=>L3 e0 b a
 |.el [x]=>.bx (dQ e0 x)
 |.cl fn first ai=>.cl fn (go first) (go ai)
 |x=>.d x
where go:List D->List V
 |[]=>[]
 |x::l=>dQ e0 x::go l
theorem Li (e0:V):∀l:List D,dQ.go e0 l=l.map (dQ e0)
 |[]=>rfl
 |x::l=>by simp [dQ.go,Li e0 l]
theorem Nc (h0:aC σ s w e0 u0) {x:D} (hr:cY (Own σ s) w x u):aC σ s w (dQ e0 x) u:=by
 have g:∀(l:List D) (i:Nat) (y:V),(l.map (dQ e0))[i]?=some y->∃x,l[i]?=some x/\dQ e0 x=y:=λl i y hy=>by rw[aiY]at hy;exact Option.map_eq_some_iff.1 hy
 induction hr with
 |sc v hv =>
  have hd:aC σ s w (.d (.sc v)) v:=.d (.sc v hv);unfold dQ;split
  ·rename_i b a hx;cases hx;unfold L3;split
   ·split
    ·rename_i hc;obtain⟨rfl,rfl⟩:=hc;have:=h0.Ib;subst this;exact h0
    ·exact hd
   ·exact hd
  ·rename_i hx;cases hx
  ·rename_i hx;cases hx
  ·exact hd
 |nil=>exact .d .nil
 |sl aw a cap sz f h1 h2 h3 h4 h5 _=>exact .d (.sl aw a cap sz f h1 h2 h3 h4 h5)
 |el cs a f h1 h2 h3 ih =>
  match cs,h2,h3,ih with
  |[],h2,h3,_=>exact .d (.el [] a f h1 h2 h3)
  |[x],h2,h3,ih =>
   simp only[dQ];exact .bx h1 (h2 0 x rfl).1 (h2 0 x rfl).2 (h3 0 x rfl).one (ih 0 x rfl)
  |x::y::l,h2,h3,_=>exact .d (.el (x::y::l) a f h1 h2 h3)
 |cl h1 _ h3 _ Aq gy =>
  simp only[dQ,Li];refine .cl (by simpa using h1) (λi y hy=>?_) (by simpa using h3) (λi y hy=>?_)
  ·obtain⟨x,hx,rfl⟩:=g _ i y hy;exact Aq i x hx
  ·obtain⟨x,hx,rfl⟩:=g _ i y hy;exact gy i x hx
 |ub b=>exact .d (.ub b)
def FW (e0 x:V):V :=
 match x with
 |.d (.cl fn first ai)=>dQ e0 (.cl fn first ai)
 |.d (.sc (.func fn ⟨[]⟩ ⟨[]⟩))=>.cl fn [] []
 |x=>x
theorem Qg (h0:aC σ s w e0 u0) (hx:aC σ s w x u):aC σ s w (FW e0 x) u:=by
 unfold FW;split
 ·cases hx with|d hx=>exact Nc h0 hx
 ·cases hx with
  |d hx =>
   cases hx with
   |sc _ _=>exact .cl rfl (λi x hx=>by simp at hx) rfl (λi x hx=>by simp at hx)
 ·exact hx
def Ml (P:Program) (f:FuncId):Bool :=
 match P.funcs[f]? with
 | some fn => fn.name != "runtime.NumGoroutine" && fn.body.isSome
 |none=>false
def az (P:Program) (f:FuncId) (args:List V) (s:List Obj) (K:V->List Obj->Prop):Prop :=
 Ml P f=true/\∀(σ:Gh) (w:World) (vals:Array Value),Inv σ s w->vals.size=args.length->(∀(i:Nat) (x:V),args[i]?=some x->aC σ s w x (vals.getD i undef)) ->
  Calls P f vals w λe w'=>∃u v σ' s',e=.returned u/\aG σ s w σ' s' w'/\Inv σ' s' w'/\aC σ' s' w' v u/\K v s'
theorem Ih (h:Ml P f=true) (args:Array Value) (w:World):(callFunc f args).run P w=.ok (.enter f args) w:=by
 unfold Ml at h;split at h
 ·rename_i fn hf;simp only[aji,bne_iff_ne,ne_eq]at h;obtain⟨h1,h2⟩:=h;cases hb:fn.body with
  |none=>rw[hb]at h2;cases h2
  |some c=>simp [callFunc,hf,h1,hb]
 ·cases h
def iJ (P:Program) (c:Call) (e:Nat->V) (s:List Obj) (K:V->List Obj->Prop):Prop :=
 match c.callee with
 |.value (.func f)=>az P f (c.args.toList.map (ev e)) s K
 |.value f=>match FW (e 0) (ev e f) with
  |.cl (.func g) first ai=>az P g (first++c.args.toList.map (ev e)++ai) s K
  |_=>False
 |.builtin b=>match b,c.args.toList,c.argTypes.toList with
  |.len,[x],[t]=>mo P t (ev e x) s λv=>K v s
  |.append,[a,x],[t,t']=>if t=t' then dj P t (ev e a) (ev e x) s K else lJ P t t' (ev e a) (ev e x) s K
  |.copy,[a,x],[t,t']=>t=t'/\Au P t (ev e a) (ev e x) s K
  |.clear,[x],[t]=>qk P t (ev e x) s K
  |.min,x::rest,_=>fD true (ev e x) (rest.map (ev e)) λv=>K v s
  |.max,x::rest,_=>fD false (ev e x) (rest.map (ev e)) λv=>K v s
  |.cap,[x],[t]=>Mi P t (ev e x) λv=>K v s
  |_,_,_=>False
 |_=>False
def kD (s:List Obj) (x:V) (K:V->Prop):Prop :=
 match x with
 |.d (.el cs)=>K (.d (.el cs))
 |.rf id g i off=>wo s id g λ_=>K (.rf id g i off)
 |.pp id g i off b a=>wo s id g λ_=>K (.pp id g i off b a)
 |.d (.sc (.pointer (some ad)))=>K (.d (.sc (.pointer (some ad))))
 |.cl (.func f) first ai=>K (.cl (.func f) first ai)
 |_=>False
def Ep (e0:V) (b a:Nat):V :=
 match e0 with
 |.pp id g i off b' a'=>if b'=b/\a'<=a then .rf id g i (off+(a-a')) else .d (.sc (.pointer (some ⟨b,a,none⟩)))
 |_=>.d (.sc (.pointer (some ⟨b,a,none⟩)))
def xt (e0 p:V):V :=
 match p with
 |.d (.sc (.pointer (some ⟨b,a,none⟩)))=>Ep e0 b a
 |p=>p
theorem Og{p:V} (h0:aC σ s w e0 u0) (hp:aC σ s w p u):aC σ s w (xt e0 p) u:=by
 unfold xt;split
 ·rename_i b a;unfold Ep;split
  ·split
   ·rename_i id g i off b' a' hc;obtain⟨rfl,hle⟩:=hc;cases hp with|d hp=>?_
    cases hp with|sc _ _=>?_
    cases h0 with
    |pp o ho hg hk =>
     refine .rf o ho hg rfl λhe=>?_;obtain⟨base,k1,k2,k3⟩:=hk he;exact⟨b',base,k1,k2,by congr 3;omega⟩
   ·exact hp
  ·exact hp
 ·exact hp
def iM (x:V) (A B:Prop):Prop :=
 match x with
 |.d (.sc (.bool b))=>(b=true->A)/\(b=false->B)
 |_=>False
def zv (x:V) (i:Nat) (K:V->Prop):Prop :=
 match x with
 |.tu vs=>match vs[i]? with
  |some v=>K v
  |none=>False
 |_=>False
def dg (P:Program) (o:Oper) (e:Nat->V) (s:List Obj) (K:V->List Obj->Prop):Prop :=
 match o.op with
 |.move x=>K (ev e x) s
 |.assign x=>K (ev e x) s
 |.pick c a b=>iM (ev e c) (K (ev e a) s) (K (ev e b) s)
 |.alloc t=>qF P t s K
 |.box _ x=>BZ s (ev e x) K
 |.build t parts=>qG P t (parts.toList.map λp=>(p.1,ev e p.2)) λv=>K v s
 |.buildSlice t n parts=>e9 P t n (parts.toList.map λp=>(p.1,ev e p.2)) s K
 |.load t a=>mz P t s (xt (e 0) (ev e a)) λv=>K v s
 |.store t a x=>iY P t s (ev e a) (ev e x) λs'=>K .un s'
 |.nilCheck x=>kD s (ev e x) λv=>K v s
 |.binOp op t x y _=>bif Su y then eI P op t s (ev e x) (λv=>K v s) else qP P op t s (ev e x) (ev e y) λv=>K v s
 |.unOp op _ x=>Cw op (ev e x) λv=>K v s
 |.convert src dst x=>qU P src dst (ev e x) λv=>K v s
 |.makeFunc fn first ai=>K (.cl fn (first.toList.map (ev e)) (ai.toList.map (ev e))) s
 |.makeSlice t l c=>gY P t (ev e l) (ev e c) s K
 |.slice t x lo hi mx=>ma P t (ev e x) (lo.map (ev e)) (hi.map (ev e)) (mx.map (ev e)) s λv=>K v s
 |.fieldAddr t x f=>fh P t s (ev e x) f λv=>K v s
 |.field t x f=>ny P t (ev e x) f λv=>K v s
 |.indexAddr t x i=>dT P t s (ev e x) (ev e i) λv=>K v s
 |.index t x i=>lj P t (ev e x) (ev e i) λv=>K v s
 |.extract x i=>zv (ev e x) i λv=>K v s
 |.call c=>iJ P c e s K
 |.makeMap t r=>oW P t r s K
 |.lookup t x i ok=>bif ok then False else j0 P t s (ev e x) (ev e i) λv=>K v s
 |.mapUpdate t m k x=>xA P t s (ev e m) (ev e k) (ev e x) λs'=>K .un s'
 |.insert t m k x=>xA P t s (ev e m) (ev e k) (ev e x) λs'=>K .un s'
 |_=>False
def eC (σ:Gh) (s:List Obj) (w:World) (N:Nat) (e:Nat->V) (a:Act):Prop :=
 a.defers=[]/\a.tmps.size=N/\∀t,aC σ s w (e t) (a.tmps.getD t undef)
theorem eC.ev {σ s w N e a} (h:eC σ s w N e a) (x:Operand):aC σ s w (ev e x) (a.eval x):=by
 cases x with
 |tmp t=>exact h.2.2 t
 |const v=>exact V8 v
 |global g=>exact .any
 |func f=>exact .cl rfl (λi x hx=>by simp at hx) rfl (λi x hx=>by simp at hx)
def xu (P:Program) (o:Oper) (σ:Gh) (s:List Obj) (w:World) (a:Act) (K:V->List Obj->Prop):Prop :=
 o.wp P a w (λa' w'=>∃u v σ' s',a'=a.put o.dst u/\aG σ s w σ' s' w'/\Inv σ' s' w'/\aC σ' s' w' v u/\K v s') (λ_ _ _=>False)
theorem ft{K:V->List Obj->Prop}{v:V}{σ':Gh}{s':List Obj}{w':World} (hr:(execOp a.eval o).run P w=.ok (.value u) w')
  (hE:aG σ s w σ' s' w') (hI:Inv σ' s' w') (hv:aC σ' s' w' v u) (hK:K v s'):xu P o σ s w a K:=by
 unfold xu Oper.wp;rw[hr,Oper.upon_value];exact⟨u,v,σ',s',rfl,hE,hI,hv,hK⟩
theorem CE{e:Nat->V} (h:eC σ s w N e a) (l:List Operand):∀(i:Nat) (x:V),(l.map (ev e))[i]?=some x->∃u,(l.map a.eval)[i]?=some u/\aC σ s w x u:=by intro i x hx;rw[aiY]at hx ⊢;obtain⟨y,hy,rfl⟩:=Option.map_eq_some_iff.1 hx;rw[hy];exact⟨_,rfl,h.ev y⟩
theorem HB{e:Nat->V} (h:eC σ s w N e a) (l:List (Nat×Operand)) :
  ∀(j:Nat) i x,(l.map λp=>(p.1,ev e p.2))[j]?=some (i,x)->∃u,(l.map λp=>(p.1,a.eval p.2))[j]?=some (i,u)/\aC σ s w x u:=by
 intro j i x hx;rw[aiY]at hx ⊢;obtain⟨y,hy,h'⟩:=Option.map_eq_some_iff.1 hx;simp only[ajE]at h';obtain⟨rfl,rfl⟩:=h';rw[hy];exact⟨_,rfl,h.ev y.2⟩
theorem Ko{K:V->List Obj->Prop}{vals:Array Value}{args:List V} (hr:(execOp a.eval o).run P w=(callFunc f vals).run P w)
  (hI:Inv σ s w) (hl:vals.size=args.length) (hv:∀(i:Nat) (x:V),args[i]?=some x->aC σ s w x (vals.getD i undef)) (h:az P f args s K):xu P o σ s w a K:=by
 unfold xu Oper.wp;rw[hr,Ih h.1,Oper.upon_enter];refine(h.2 σ w vals hI hl hv).mono λe w' ⟨u,v,σ',s',he,hE,ko,hR,hK⟩=>?_;subst he;exact⟨u,v,σ',s',rfl,hE,ko,hR,hK⟩
theorem su {l:List Value}{i:Nat} (h:l[i]?=some u) (d:Value):l.toArray.getD i d=u:=by have aB:=(List.getElem?_eq_some_iff.1 h).1;have:=(List.getElem?_eq_some_iff.1 h).2;simp [Array.getD,aB,this]
theorem Fa{e:Nat->V}{K:V->List Obj->Prop} (hI:Inv σ s w) (hR:eC σ s w N e a) (h:dg P o e s K):xu P o σ s w a K:=by
 obtain⟨dst,op,ty,pos,after,guard⟩:=o;have ro:∀{v:V}{c:Value}{s1:Sem Value},s1.run P w=.ok c w->(do pure (Next.value (<- s1)):Sem Next).run P w=.ok (.value c) w:=λh=>by simp [h]
 have r1:∀{c:Value}{w':World}{s1:Sem Value},s1.run P w=.ok c w'->(do pure (Next.value (<- s1)):Sem Next).run P w=.ok (.value c) w':=λh=>by simp [h]
 have same:∀{v:V}{c:Value},(execOp a.eval ⟨dst,op,ty,pos,after,guard⟩).run P w=.ok (.value c) w->aC σ s w v c->K v s->xu P ⟨dst,op,ty,pos,after,guard⟩ σ s w a K :=
  λhr hv hk=>ft hr (aG.refl _ _ _) hI hv hk
 cases op <;> simp only[dg]at h
 case move x=>exact same (by simp [execOp]) (hR.ev x) h
 case assign x=>exact same (by simp [execOp]) (hR.ev x) h
 case pick c x y =>
  unfold iM at h;split at h
  ·rename_i b hb;have hc:=hR.ev c;rw[hb]at hc;generalize yD:a.eval c=X1 at hc;cases hc with|d hc=>?_
   cases hc with|sc _ _=>?_
   cases b
   ·exact same (c:=a.eval y) (by simp [execOp,yD,asBool]) (hR.ev y) (h.2 rfl)
   ·exact same (c:=a.eval x) (by simp [execOp,yD,asBool]) (hR.ev x) (h.1 rfl)
  ·exact h.elim
 case alloc t =>
  obtain⟨v,c,σ',s',w',k1,k2,k3,k4,k5⟩:=LX hI h;exact ft (by simp only[execOp];exact r1 k1) k2 k3 k4 k5
 case box t x =>
  obtain⟨v,c,σ',s',w',k1,k2,k3,k4,k5⟩:=QZ (P:=P) (t:=t) hI (hR.ev x) h;exact ft (by simp only[execOp];exact r1 k1) k2 k3 k4 k5
 case build t parts =>
  obtain⟨v,c,k1,k2,k3⟩:=KG aj (HB hR parts.toList) h;refine same (c:=c) ?_ k2 k3;simp only[execOp];refine r1 ?_;rw[<- List.map_toArray]at k1;simpa using k1
 case buildSlice t n parts =>
  obtain⟨v,c,σ',s',w',k1,k2,k3,k4,k5⟩:=A4 hI aj (HB hR parts.toList) h;refine ft ?_ k2 k3 k4 k5;simp only[execOp];refine r1 ?_;rw[<- List.map_toArray]at k1;simpa using k1
 case load t x =>
  obtain⟨v,c,k1,k2,k3⟩:=E8 hI (Og (hR.2.2 0) (hR.ev x)) h;exact same (by simp only[execOp];exact r1 k1) k2 k3
 case store t x y =>
  obtain⟨s',w',k1,k2,k3,k4⟩:=JW hI (hR.ev x) (hR.ev y) h;unfold xu Oper.wp;simp only[execOp,Sem.run_bind,k1,Result.andThen_ok,Sem.run_pure,Oper.upon_skip];exact⟨undef,.un,σ,s',rfl,k2,k3,.un,k4⟩
 case nilCheck x =>
  unfold kD at h;have hx:=hR.ev x;split at h
  ·rename_i kS;rw[kS]at hx;generalize yD:a.eval x=X1 at hx;cases hx with|d hx=>?_
   cases hx with|el _ ad f h1 h2 h3=>?_
   exact same (c:=.pointer (some ad)) (by simp [execOp,yD]) (.d (.el _ ad f h1 h2 h3)) h
  ·rename_i kS;obtain⟨o,ho,hg,h⟩:=eQ h;rw[kS]at hx;obtain⟨b,base,_,_,hp⟩:=Of hx ho hg;exact same (c:=a.eval x) (by simp [execOp,hp]) hx h
  ·rename_i kS;obtain⟨o,ho,hg,h⟩:=eQ h;rw[kS]at hx;have hp:=hx.Ib;exact same (c:=a.eval x) (by simp [execOp,hp]) hx h
  ·rename_i kS;rw[kS]at hx;generalize yD:a.eval x=X1 at hx;cases hx with|d hx=>?_
   cases hx with|sc _ hv=>?_
   exact same (by simp [execOp,yD]) (.d (.sc _ hv)) h
  ·rename_i kS;rw[kS]at hx;generalize yD:a.eval x=X1 at hx;cases hx with|cl h1 h2 h3 h4=>?_
   exact same (c:=.func _ _ _) (by simp [execOp,yD]) (.cl h1 h2 h3 h4) h
  ·exact h.elim
 case binOp op t x y yt =>
  cases hn:Su y with
  |true =>
   simp only[hn,cond_true]at h;have hy:y=.const (.slice none 0 0):=by
    unfold Su at hn;split at hn
    ·rfl
    ·cases hn
   subst hy;obtain⟨v,c,k1,k2,k3⟩:=Mh (xo:=x) (yo:=.const (.slice none 0 0)) (hR.ev x) h;exact same (by simp only[execOp];exact r1 k1) k2 k3
  |false =>
   simp only[hn,cond_false]at h;obtain⟨v,c,k1,k2,k3⟩:=Rv (xo:=x) (yo:=y) (hR.ev x) (hR.ev y) h;exact same (by simp only[execOp];exact r1 k1) k2 k3
 case unOp op t x =>
  obtain⟨v,c,k1,k2,k3⟩:=Tm (P:=P) (hR.ev x) h;exact same (by simp only[execOp];exact r1 k1) k2 k3
 case convert src d x =>
  obtain⟨v,c,k1,k2,k3⟩:=Nv (hR.ev x) h;exact same (by simp only[execOp];exact r1 k1) k2 k3
 case makeFunc fn first ai =>
  have key:∀(l:Array Operand) (i:Nat) (x:V),(l.toList.map (ev e))[i]?=some x->aC σ s w x ((l.map a.eval).getD i undef):=by intro l i x hx;obtain⟨u,h1,h2⟩:=CE hR l.toList i x hx;have:=su h1 undef;rw[<- List.map_toArray]at this;simp only[Array.toArray_toList]at this;rw[this];exact h2
  refine same (c:=.func fn (first.map a.eval) (ai.map a.eval)) (by simp [execOp,Instr.makeFunc]) (.cl aj (key first) aj (key ai)) h
 case makeSlice t l c =>
  obtain⟨v,r,σ',s',w',k1,k2,k3,k4,k5⟩:=Cq hI (hR.ev l) (hR.ev c) h;exact ft (by simp only[execOp];exact r1 k1) k2 k3 k4 k5
 case slice t x lo hi mx =>
  have opt:∀(y:Option Operand) (v:V),y.map (ev e)=some v->∃c,y.map a.eval=some c/\aC σ s w v c:=by
   intro y v hv;cases y with
   |none=>cases hv
   |some y=>simp only[ai3,ai5]at hv;subst hv;exact⟨_,rfl,hR.ev y⟩
  have X0:∀(y:Option Operand),y.map (ev e)=none->y.map a.eval=none:=by
   intro y hv;cases y with
   |none=>rfl
   |some y=>cases hv
  obtain⟨v,c,k1,k2,k3⟩:=LA (hR.ev x) (opt lo) (X0 lo) (opt hi) (X0 hi) (opt mx) (X0 mx) h;exact same (by simp only[execOp];exact r1 k1) k2 k3
 case fieldAddr t x f =>
  obtain⟨v,c,k1,k2,k3⟩:=CB (hR.ev x) h;exact same (by simp only[execOp];exact r1 k1) k2 k3
 case field t x f =>
  obtain⟨v,c,k1,k2,k3⟩:=KD (hR.ev x) h;exact same (by simp only[execOp];exact r1 k1) k2 k3
 case indexAddr t x i =>
  obtain⟨v,c,k1,k2,k3⟩:=Cj (hR.ev x) (hR.ev i) h;exact same (by simp only[execOp];exact r1 k1) k2 k3
 case index t x i =>
  obtain⟨v,c,k1,k2,k3⟩:=Ke (hR.ev x) (hR.ev i) h;exact same (by simp only[execOp];exact r1 k1) k2 k3
 case extract x i =>
  unfold zv at h;have hx:=hR.ev x;split at h
  case h_2=>exact h.elim
  rename_i vs kS;rw[kS]at hx;split at h
  case h_2=>exact h.elim
  rename_i v hv;generalize yD:a.eval x=X1 at hx;cases hx with|tu h1 h2=>?_
  rename_i arr;have aB:=(List.getElem?_eq_some_iff.1 hv).1;obtain⟨c,hc⟩:∃c,arr[i]?=some c:=⟨arr[i]' ae,by rw[Array.getElem?_eq_getElem]⟩
  have hd:arr.getD i undef=c:=by rw[ajl,hc];rfl
  exact same (c:=c) (by simp [execOp,yD,Instr.extract,hc]) (by rw[<- hd];exact h2 i v hv) h
 case makeMap t r =>
  obtain⟨v,c,σ',s',w',k1,k2,k3,k4,k5⟩:=FE (P:=P) hI h;have hr:r=none:=h.1;subst hr;exact ft (by simp only[execOp,Option.map_none];exact r1 k1) k2 k3 k4 k5
 case lookup t x i ok =>
  cases ok with
  |true=>exact h.elim
  |false =>
   simp only[cond_false]at h;obtain⟨v,c,k1,k2,k3⟩:=ID hI (hR.ev x) (hR.ev i) h;exact same (by simp only[execOp];exact r1 k1) k2 k3
 case mapUpdate t x y z =>
  obtain⟨s',w',k1,k2,k3,k4⟩:=GY hI (hR.ev x) (hR.ev y) (hR.ev z) h;unfold xu Oper.wp;simp only[execOp,Sem.run_bind,k1,Result.andThen_ok,Sem.run_pure,Oper.upon_skip];exact⟨undef,.un,σ,s',rfl,k2,k3,.un,k4⟩
 case insert t x y z =>
  obtain⟨s',w',k1,k2,k3,k4⟩:=GY hI (hR.ev x) (hR.ev y) (hR.ev z) h;unfold xu Oper.wp;simp only[execOp,Sem.run_bind,k1,Result.andThen_ok,Sem.run_pure,Oper.upon_skip];exact⟨undef,.un,σ,s',rfl,k2,k3,.un,k4⟩
 case call c =>
  obtain⟨callee,args,argTypes⟩:=c;unfold iJ at h;have PD:∀(l:List Operand),l=args.toList->∀(i:Nat) (x:V),(l.map (ev e))[i]?=some x->∃u,(args.map a.eval).toList[i]?=some u/\aC σ s w x u:=by rintro l rfl i x hx;obtain⟨u,h1,h2⟩:=CE hR args.toList i x hx;exact⟨u,by simpa using h1,h2⟩
  split at h
  ·rename_i f hf;simp only at hf;subst hf;refine Ko (f:=f) (vals:=args.map a.eval) (by
    rw[execOp_call_go,Array.empty_append,Array.append_empty]) hI aj (λi x hx=>?_) h
   obtain⟨u,h1,h2⟩:=PD _ rfl i x hx;have:=su h1 undef;simp only[Array.toArray_toList]at this;rw[this];exact h2
  ·rename_i f _ hf;simp only at hf;subst hf;split at h
   ·rename_i g first ai iy
    have hx:=Qg (hR.2.2 0) (hR.ev f);rw[iy]at hx;generalize yD:a.eval f=X1 at hx;cases hx with|cl h1 h2 h3 h4=>?_
    rename_i f' c';refine Ko (f:=g) (vals:=f'++args.map a.eval++c') (by
     simp [execOp,resolve,yD,Deferred.ofValue,invoke]) hI (by simp [h1,h3]) (λi x hx=>?_) h
    have gd:∀(arr:Array Value) (j:Nat),j<arr.size->arr[j]?=some (arr.getD j undef):=λarr j hj=>by simp [Array.getD,hj]
    by_cases ql:i<first.length
    ·rw[ajq,ajj ql]at hx;have:(f'++args.map a.eval++c').getD i undef=f'.getD i undef:=by rw[ajl,Array.append_assoc,aj8 ae,ajl]
     rw[this];exact h2 i x hx
    ·rw[ajq,ajh ae]at hx;simp only at hx;by_cases hi2:i-first.length<(args.toList.map (ev e)).length
     ·rw[ajj hi2]at hx;obtain⟨u,k1,k2⟩:=PD _ rfl _ x hx;have:(f'++args.map a.eval++c').getD i undef=u:=by rw[ajl,Array.append_assoc,akd ae,aj8 (by simp at hi2 ⊢;omega),h1];rw[ajN]at k1;rw[k1];rfl
      rw[this];exact k2
     ·rw[ajh ae]at hx;have:(f'++args.map a.eval++c').getD i undef=c'.getD (i-first.length-(args.toList.map (ev e)).length) undef:=by rw[ajl,Array.append_assoc,akd ae,akd (by simp at hi2 ⊢;omega),ajl];congr 2;simp [h1]
      rw[this];exact h4 _ x hx
   ·exact h.elim
  ·rename_i b hb;simp only at hb;subst hb;have kF:∀(l:List Operand),args.toList=l->args=l.toArray:=λl hl=>by rw[<- hl]
   have La:∀(l:List TypeId),argTypes.toList=l->argTypes=l.toArray:=λl hl=>by rw[<- hl]
   split at h
   ·rename_i x t h1 h2;have e1:=kF _ h1;have e2:=La _ h2;subst e1;subst e2;obtain⟨v,c,k1,k2,k3⟩:=Qp (ty:=ty) (hR.ev x) h;exact same (by simp [execOp,resolve,invoke,builtin,k1]) k2 k3
   ·rename_i x y t t' h1 h2;have e1:=kF _ h1;have e2:=La _ h2;subst e1;subst e2;split at h
    ·rename_i ht;subst ht;obtain⟨v,r,σ',s',w',k1,k2,k3,k4,k5⟩:=I4 (ty:=ty) hI (hR.ev x) (hR.ev y) h;exact ft (by simp [execOp,resolve,invoke,builtin,k1]) k2 k3 k4 k5
    ·obtain⟨v,r,σ',s',w',k1,k2,k3,k4,k5⟩:=FN (ty:=ty) hI (hR.ev x) (hR.ev y) h;exact ft (by simp [execOp,resolve,invoke,builtin,k1]) k2 k3 k4 k5
   ·rename_i x y t t' h1 h2;have e1:=kF _ h1;have e2:=La _ h2;subst e1;subst e2;obtain⟨rfl,h⟩:=h;obtain⟨v,r,s',w',k1,k2,k3,k4,k5⟩:=Nq (ty:=ty) hI (hR.ev x) (hR.ev y) h;exact ft (by simp [execOp,resolve,invoke,builtin,k1]) k2 k3 k4 k5
   ·rename_i x t h1 h2;have e1:=kF _ h1;have e2:=La _ h2;subst e1;subst e2;obtain⟨v,r,s',w',k1,k2,k3,k4,k5⟩:=LJ (ty:=ty) hI (hR.ev x) h;exact ft (by simp [execOp,resolve,invoke,builtin,k1]) k2 k3 k4 k5
   ·rename_i x rest h1;have e1:=kF _ h1;subst e1;obtain⟨v,r,k1,k2,k3⟩:=sK (P:=P) (mn:=true) (rest.map (ev e)) (rest.map a.eval) (ev e x) (a.eval x) _ (hR.ev x) aj (CE hR rest) h;simp only[if_true]at k1;exact same (by simp [execOp,resolve,invoke,builtin,Builtin.min_,k1]) k2 k3
   ·rename_i x rest h1;have e1:=kF _ h1;subst e1;obtain⟨v,r,k1,k2,k3⟩:=sK (P:=P) (mn:=false) (rest.map (ev e)) (rest.map a.eval) (ev e x) (a.eval x) _ (hR.ev x) aj (CE hR rest) h;simp only[ajf,if_false]at k1;exact same (by simp [execOp,resolve,invoke,builtin,Builtin.max_,k1]) k2 k3
   ·rename_i x t h1 h2;have e1:=kF _ h1;have e2:=La _ h2;subst e1;subst e2;obtain⟨v,c,k1,k2,k3⟩:=Rh (ty:=ty) (hR.ev x) h;exact same (by simp [execOp,resolve,invoke,builtin,k1]) k2 k3
   ·exact h.elim
  ·exact h.elim
end Go.VL
