/- A part of the proof (Vi Vj). -/
import Derived.Test.YtfmdmlfhigocaaaOF4
set_option linter.unusedSimpArgs false
set_option linter.unusedVariables false
set_option maxRecDepth 100000
set_option maxHeartbeats 80000000
namespace Go.VL
def eb (op:BinOp) (k:IntKind) (a b:Int):Int :=
 k.wrap (match op with
  |.and=>(BitVec.ofInt k.bits a &&& BitVec.ofInt k.bits b).toNat
  |.or=>(BitVec.ofInt k.bits a ||| BitVec.ofInt k.bits b).toNat
  |.xor=>(BitVec.ofInt k.bits a ^^^ BitVec.ofInt k.bits b).toNat
  |_=>(BitVec.ofInt k.bits a &&& ~~~BitVec.ofInt k.bits b).toNat)
def dX (op:BinOp) (k:IntKind) (a b:Int) (K:V->Prop):Prop :=
 match op with
 |.add=>K (.d (.sc (.int k (k.wrap (a+b)))))
 |.sub=>K (.d (.sc (.int k (k.wrap (a-b)))))
 |.mul=>K (.d (.sc (.int k (k.wrap (a*b)))))
 |.quo=>b≠0/\K (.d (.sc (.int k (k.wrap (a.tdiv b)))))
 |.rem=>b≠0/\K (.d (.sc (.int k (a.tmod b))))
 |.and=>K (.d (.sc (.int k (eb .and k a b))))
 |.or=>K (.d (.sc (.int k (eb .or k a b))))
 |.xor=>K (.d (.sc (.int k (eb .xor k a b))))
 |.eql=>K (.d (.sc (.bool (decide (a=b)))))
 |.neq=>K (.d (.sc (.bool (!decide (a=b)))))
 |.lss=>K (.d (.sc (.bool (decide (a<b)))))
 |.leq=>K (.d (.sc (.bool (decide (a<=b)))))
 |.gtr=>K (.d (.sc (.bool (decide (b<a)))))
 |.geq=>K (.d (.sc (.bool (decide (b<=a)))))
 |_=>False
def mG (s:List Obj):V->Prop
 |.d (.el _)=>True
 |.rf id g _ _=>rj s id g fun _=>True
 |.pp id g _ _ _ _=>rj s id g fun _=>True
 |_=>False
def JH (P:Program) (t:TypeId):Option (Nat×IntKind) :=
 match P.underlying t with
 |some (.array n e)=>match P.underlying e with
  |some (.int k)=>if (P.info? e).isSome=true/\P.cellsOf e=1/\P.eqGuardType P.depth t=false then some (n,k) else none
  |_=>none
 |_=>none
def Ny (P:Program) (t:TypeId):Option IntKind :=
 match P.underlying t with
 |some (.struct fields)=>match fields.toList with
  |[a,b,c]=>match P.underlying a.type,P.underlying b.type,P.underlying c.type with
   | some (.int k), some (.int k'), some (.int XW) => if (k' = k ∧ XW = k ∧ a.offset = 0 ∧ b.offset = 1 ∧ c.offset = 2) ∧ (a.name ≠ "_" ∧ b.name ≠ "_" ∧ c.name ≠ "_") ∧ P.stoodInHeld t = false ∧ P.eqGuardType P.depth t = false then some k else none
   |_,_,_=>none
  |_=>none
 |_=>none
def g7 (P:Program) (op:BinOp) (t:TypeId) (xs ys:List V) (K:V->Prop):Prop :=
 match xs,ys with
 |[.d (.sc (.int k1 a)),.d (.sc (.int k2 b))],[.d (.sc (.int k3 c)),.d (.sc (.int k4 d))]=>(JH P t=some (2,k1)/\k2=k1/\k3=k1/\k4=k1)/\match op with
  |.eql=>K (.d (.sc (.bool (a == c&&b == d))))
  |.neq=>K (.d (.sc (.bool (!(a == c&&b == d)))))
  |_=>False
 |[.d (.sc (.int k1 a)),.d (.sc (.int k2 b)),.d (.sc (.int k3 c))],[.d (.sc (.int k4 a')),.d (.sc (.int k5 b')),.d (.sc (.int k6 c'))]=>(Ny P t=some k1/\k2=k1/\k3=k1/\k4=k1/\k5=k1/\k6=k1)/\match op with
  |.eql=>K (.d (.sc (.bool (a == a'&&(b == b'&&c == c')))))
  |_=>False
 |_,_=>False
def cN (P:Program) (op:BinOp) (t:TypeId) (s:List Obj) (x y:V) (K:V->Prop):Prop :=
 match x,y with
 |.d (.sc (.int k a)),.d (.sc (.int k' b))=>k=k'/\dX op k a b K
 |.d (.sc (.bool a)),.d (.sc (.bool b))=>P.underlying t=some .bool/\match op with
  |.eql=>K (.d (.sc (.bool (a == b))))
  |.neq=>K (.d (.sc (.bool (!(a == b)))))
  |_=>False
 |.d (.sc (.pointer none)),.d (.sc (.pointer none))=>(∃e,P.underlying t=some (.pointer e))/\match op with
  |.eql=>K (.d (.sc (.bool true)))
  |.neq=>K (.d (.sc (.bool false)))
  |_=>False
 |.ag xs,.ag ys=>g7 P op t xs ys K
 |p,.d (.sc (.pointer none))=>mG s p/\(∃e,P.underlying t=some (.pointer e))/\match op with
  |.eql=>K (.d (.sc (.bool false)))
  |.neq=>K (.d (.sc (.bool true)))
  |_=>False
 |_,_=>False
def Kq:Operand->Bool
 |.const (.slice none 0 0)=>true
 |_=>false
def dv (P:Program) (op:BinOp) (t:TypeId) (s:List Obj) (x:V) (K:V->Prop):Prop :=
 (∃e,P.underlying t=some (.slice e))/\op=.eql/\match x with
  |.d (.sl [])=>K (.d .ub)
  |.d (.sl (_::_))=>K (.d (.sc (.bool false)))
  |.fu []=>K (.d .ub)
  |.fu (_::_)=>K (.d (.sc (.bool false)))
  |.so id g _ 0=>rj s id g fun _=>K (.d .ub)
  |.so id g _ (_+1)=>rj s id g fun _=>K (.d (.sc (.bool false)))
  |_=>False
theorem GA {σ:Gh}{s:List Obj}{w:World}{p:V}{u:Value} (hp:aw σ s w p u) (h:mG s p):∃a,u=.pointer (some a):=by
 unfold mG at h
 split at h
 ·cases hp with|d hx=>?_
  cases hx with|el _ a _ _ _ _=>exact⟨a,rfl⟩
 ·obtain⟨o,ho,hg,_⟩:=dA h
  obtain⟨b,base,_,_,rfl⟩:=GY hp ho hg
  exact⟨_,rfl⟩
 ·exact⟨_,hp.BA⟩
 ·exact h.elim
theorem run_equal_bool {P:Program}{t:TypeId} (hu:P.underlying t=some .bool) (a b:Bool) (w:World):(Op.equal t (.bool a) (.bool b)).run P w=.ok (a == b) w:=by
 have h:∀d:Nat,(Op.equalIn (d+1) t (.bool a) (.bool b)).run P w=.ok (a == b) w:=fun d=>by simp [Op.equalIn,run_underlying hu]
 exact h 9999
theorem zZ {P:Program}{t e:TypeId} (hu:P.underlying t=some (.pointer e)) (w:World):(Op.equal t (.pointer none) (.pointer none)).run P w=.ok true w:=by
 have h:∀d:Nat,(Op.equalIn (d+1) t (.pointer none) (.pointer none)).run P w=.ok true w:=fun d=>by simp [Op.equalIn,run_underlying hu]
 exact h 9999
theorem zM {P:Program}{t e:TypeId} (hu:P.underlying t=some (.pointer e)) (a:Addr) (w:World):(Op.equal t (.pointer (some a)) (.pointer none)).run P w=.ok false w:=by
 have h:∀d:Nat,(Op.equalIn (d+1) t (.pointer (some a)) (.pointer none)).run P w=.ok false w:=fun d=>by simp [Op.equalIn,run_underlying hu]
 exact h 9999
theorem tt {P:Program}{t:TypeId} (hu:P.underlying t=some .bool) (a b:Bool) (w:World) (xo yo:Operand) :
  (do eqGuard .eql t xo yo (.bool a) (.bool b);binOp .eql t (.bool a) (.bool b):Sem Value).run P w=.ok (.bool (a == b)) w /\
  (do eqGuard .neq t xo yo (.bool a) (.bool b);binOp .neq t (.bool a) (.bool b):Sem Value).run P w=.ok (.bool (!(a == b))) w:=by
 have h:=run_equal_bool hu a b w
 constructor <;> simp only[eqGuard,binOp,Sem.run_bind,Sem.run_pure,h,Result.andThen_ok,Bool.not_true,Bool.false_eq_true,if_false]
theorem wI {P:Program}{t e:TypeId} (hu:P.underlying t=some (.pointer e)) (w:World) (xo yo:Operand) :
  (do eqGuard .eql t xo yo (.pointer none) (.pointer none);binOp .eql t (.pointer none) (.pointer none):Sem Value).run P w=.ok (.bool true) w /\
  (do eqGuard .neq t xo yo (.pointer none) (.pointer none);binOp .neq t (.pointer none) (.pointer none):Sem Value).run P w=.ok (.bool false) w:=by
 have h:=zZ hu w
 constructor <;> simp only[eqGuard,binOp,Sem.run_bind,Sem.run_pure,h,Result.andThen_ok,Bool.not_true,Bool.false_eq_true,if_false]
theorem wo {P:Program}{t e:TypeId} (hu:P.underlying t=some (.pointer e)) (a:Addr) (w:World) (xo yo:Operand) :
  (do eqGuard .eql t xo yo (.pointer (some a)) (.pointer none);binOp .eql t (.pointer (some a)) (.pointer none):Sem Value).run P w=.ok (.bool false) w /\
  (do eqGuard .neq t xo yo (.pointer (some a)) (.pointer none);binOp .neq t (.pointer (some a)) (.pointer none):Sem Value).run P w=.ok (.bool true) w:=by
 have h:=zM hu a w
 constructor <;> simp only[eqGuard,binOp,Sem.run_bind,Sem.run_pure,h,Result.andThen_ok,Bool.not_true,Bool.false_eq_true,if_false,Bool.not_false]
theorem xh {P:Program}{t e:TypeId} (hu:P.underlying t=some (.slice e)) (a:Option Addr) (n c:Nat) (w:World):(Op.equal t (.slice a n c) (.slice none 0 0)).run P w=.ok a.isNone w:=by
 have h:∀d:Nat,(Op.equalIn (d+1) t (.slice a n c) (.slice none 0 0)).run P w=.ok a.isNone w:=fun d=>by cases a <;> simp [Op.equalIn,run_underlying hu]
 exact h 9999
theorem eu {P:Program}{t e:TypeId} (hu:P.underlying t=some (.slice e)) (a:Option Addr) (n c:Nat) (w:World) (xo yo:Operand) :
  (do eqGuard .eql t xo yo (.slice a n c) (.slice none 0 0);binOp .eql t (.slice a n c) (.slice none 0 0):Sem Value).run P w=.ok (.bool a.isNone) w:=by
 have h:=xh hu a n c w
 simp only[eqGuard,binOp,Sem.run_bind,Sem.run_pure,h,Result.andThen_ok,Bool.not_true,Bool.false_eq_true,if_false]
theorem Fc {P:Program}{op:BinOp}{t:TypeId}{xo yo:Operand}{x:V}{ux:Value}{σ:Gh}{s:List Obj}{w:World}{K:V->Prop} (hx:aw σ s w x ux) (h:dv P op t s x K) :
  ∃v c,(do eqGuard op t xo yo ux (.slice none 0 0);binOp op t ux (.slice none 0 0):Sem Value).run P w=.ok c w/\aw σ s w v c/\K v:=by
 obtain⟨⟨e,hu⟩,rfl,h⟩:=h
 split at h
 ·cases hx with|d hx=>?_
  cases hx with
  |nil=>exact⟨_,_,eu hu _ _ _ w xo yo,.d (.ub _),h⟩
  |sl _ a cap sz f h1 h2 h3 h4 h5=>exact⟨_,_,eu hu _ _ _ w xo yo,.d (.ub _),h⟩
 ·cases hx with|d hx=>?_
  cases hx with
  |sl _ a cap sz f h1 h2 h3 h4 h5=>exact⟨_,_,eu hu _ _ _ w xo yo,.d (.sc _ rfl),h⟩
 ·cases hx with|fu hx=>?_
  exact⟨_,_,eu hu _ _ _ w xo yo,.d (.ub _),h⟩
 ·cases hx with|fu hx=>?_
  cases hx with
  |sl _ a cap sz f h1 h2 h3 h4 h5=>exact⟨_,_,eu hu _ _ _ w xo yo,.d (.sc _ rfl),h⟩
 ·obtain⟨o,ho,hg,hK⟩:=dA h
  cases hx with|so o' gE zP JQ hk=>?_
  rw[ho]at gE;cases gE
  rcases hk hg with ⟨_,⟨a,rfl⟩,_,_⟩|⟨b,bs,cp,E,arr,_,_,rfl,_⟩
  ·exact⟨_,_,eu hu _ _ _ w xo yo,.d (.ub _),hK⟩
  ·exact⟨_,_,eu hu _ _ _ w xo yo,.d (.ub _),hK⟩
 ·obtain⟨o,ho,hg,hK⟩:=dA h
  cases hx with|so o' gE zP JQ hk=>?_
  rw[ho]at gE;cases gE
  rcases hk hg with ⟨_,_,_,h0⟩|⟨b,bs,cp,E,arr,_,_,rfl,_⟩
  ·omega
  ·exact⟨_,_,eu hu _ _ _ w xo yo,.d (.sc _ rfl),hK⟩
 ·exact h.elim
theorem At {P:Program}{t:TypeId}{n:Nat}{k:IntKind} (h:JH P t=some (n,k)):∃e i,P.underlying t=some (.array n e)/\P.underlying e=some (.int k)/\P.info? e=some i/\P.cellsOf e=1/\P.eqGuardType P.depth t=false:=by
 unfold JH at h
 split at h
 ·rename_i n' e hu
  split at h
  ·rename_i k' hk
   split at h
   ·rename_i hc
    cases h
    obtain⟨i,hi⟩:=Option.isSome_iff_exists.1 hc.1
    exact⟨e,i,hu,hk,hi,hc.2.1,hc.2.2⟩
   ·cases h
  ·cases h
 ·cases h
theorem zN {P:Program}{t:TypeId}{k:IntKind} (ha:JH P t=some (2,k)) (a b c d:Int) (w:World) :
  (Op.equal t (.agg #[.int k a,.int k b]) (.agg #[.int k c,.int k d])).run P w=.ok (a == c&&b == d) w:=by
 obtain⟨e,i,h1,h2,h3,h4,_⟩:=At ha
 have h:∀n:Nat,(Op.equalIn (n+2) t (.agg #[.int k a,.int k b]) (.agg #[.int k c,.int k d])).run P w=.ok (a == c&&b == d) w:=by
  intro n
  rw[run_equalIn_array w (n+1) _ _ h1 h3,h4]
  have hi:∀(x y:Int),(Op.equalIn (n+1) e (.int k x) (.int k y)).run P w=.ok (x == y) w:=fun x y=>by simp [Op.equalIn,run_underlying h2]
  have hp:∀(xs:Array Value) (j:Nat) (v:Value),xs[j]?=some v->(part e xs j).run P w=.ok v w:=fun xs j v hv=>by simp [part,isAgg,run_underlying h2,hv]
  have r2:List.range 2=[0,1]:=rfl
  rw[r2]
  have p0:=hp #[.int k a,.int k b] 0 (.int k a) rfl
  have p1:=hp #[.int k a,.int k b] 1 (.int k b) rfl
  have q0:=hp #[.int k c,.int k d] 0 (.int k c) rfl
  have q1:=hp #[.int k c,.int k d] 1 (.int k d) rfl
  simp only[Op.eqItems,Sem.run_bind,Nat.zero_mul,Nat.one_mul,p0,q0,hi,Result.andThen_ok]
  cases TN:(a == c)
  ·simp
  ·simp only[Bool.not_true,Bool.false_eq_true,if_false,Sem.run_bind,p1,q1,hi,Result.andThen_ok]
   cases TF:(b == d) <;> simp
 exact h 9998
theorem Bk {P:Program}{t:TypeId}{k:IntKind} (h:Ny P t=some k):∃fields a b c,P.underlying t=some (.struct fields)/\fields.toList=[a,b,c]/\P.underlying a.type=some (.int k)/\P.underlying b.type=some (.int k)/\P.underlying c.type=some (.int k) /\
  (a.offset = 0 ∧ b.offset = 1 ∧ c.offset = 2) ∧ (a.name ≠ "_" ∧ b.name ≠ "_" ∧ c.name ≠ "_") ∧ P.stoodInHeld t = false ∧ P.eqGuardType P.depth t = false := by
 unfold Ny at h
 split at h
 ·rename_i fields hu
  split at h
  ·rename_i a b c hl
   split at h
   ·rename_i k1 k2 k3 ha hb hc
    split at h
    ·rename_i hh
     cases h
     obtain⟨⟨rfl,rfl,o⟩,n,s1,s2⟩:=hh
     exact⟨fields,a,b,c,hu,hl,ha,hb,hc,o,n,s1,s2⟩
    ·cases h
   ·cases h
  ·cases h
 ·cases h
theorem zS {P:Program}{t:TypeId}{k:IntKind} (ht:Ny P t=some k) (a b c a' b' c':Int) (w:World) :
  (Op.equal t (.agg #[.int k a,.int k b,.int k c]) (.agg #[.int k a',.int k b',.int k c'])).run P w=.ok (a == a'&&(b == b'&&c == c')) w:=by
 obtain⟨fields,fa,fb,fc,h1,h2,h3,h4,h5,⟨o1,o2,o3⟩,⟨n1,n2,n3⟩,s1,_⟩:=Bk ht
 have hf:fields=#[fa,fb,fc]:=by rw[<- h2]
 have h:∀n:Nat,(Op.equalIn (n+2) t (.agg #[.int k a,.int k b,.int k c]) (.agg #[.int k a',.int k b',.int k c'])).run P w=.ok (a == a'&&(b == b'&&c == c')) w:=by
  intro n
  have hi:∀(e:TypeId) (x y:Int),P.underlying e=some (.int k)->(Op.equalIn (n+1) e (.int k x) (.int k y)).run P w=.ok (x == y) w:=fun e x y he=>by simp [Op.equalIn,run_underlying he]
  have hp:∀(e:TypeId) (xs:Array Value) (j:Nat) (v:Value),P.underlying e=some (.int k)->xs[j]?=some v->(part e xs j).run P w=.ok v w:=fun e xs j v he hv=>by simp [part,isAgg,run_underlying he,hv]
  have p0:=hp fa.type #[.int k a,.int k b,.int k c] 0 (.int k a) h3 rfl
  have p1:=hp fb.type #[.int k a,.int k b,.int k c] 1 (.int k b) h4 rfl
  have p2:=hp fc.type #[.int k a,.int k b,.int k c] 2 (.int k c) h5 rfl
  have q0:=hp fa.type #[.int k a',.int k b',.int k c'] 0 (.int k a') h3 rfl
  have q1:=hp fb.type #[.int k a',.int k b',.int k c'] 1 (.int k b') h4 rfl
  have q2:=hp fc.type #[.int k a',.int k b',.int k c'] 2 (.int k c') h5 rfl
  have e0:=hi fa.type a a' h3
  have e1:=hi fb.type b b' h4
  have e2:=hi fc.type c c' h5
  rw[show n+2=(n+1)+1 from rfl,Op.equalIn]
  subst hf
  generalize (a == a')=r0 at e0 ⊢
  generalize (b == b')=r1 at e1 ⊢
  generalize (c == c')=r2 at e2 ⊢
  simp [run_underlying h1,Sem.run_bind,s1,n1,n2,n3,o1,o2,o3,p0,p1,p2,q0,q1,q2,e0,e1,e2]
  cases r0 <;> cases r1 <;> cases r2 <;> simp
 exact h 9998
theorem Jz {P:Program}{op:BinOp}{t:TypeId}{xo yo:Operand}{xs ys:List V}{ux uy:Value}{σ:Gh}{s:List Obj}{w:World}{K:V->Prop} (hx:aw σ s w (.ag xs) ux) (hy:aw σ s w (.ag ys) uy) (h:g7 P op t xs ys K) :
  ∃v c,(do eqGuard op t xo yo ux uy;binOp op t ux uy:Sem Value).run P w=.ok c w/\aw σ s w v c/\K v:=by
 unfold g7 at h
 split at h
 ·rename_i k1 a k2 b k3 c k4 d
  obtain⟨⟨ha,rfl,rfl,rfl⟩,h⟩:=h
  have two:∀{k:IntKind}{a b:Int}{u:Value},aw σ s w (.ag [.d (.sc (.int k a)),.d (.sc (.int k b))]) u->u=.agg #[.int k a,.int k b]:=by
   intro k a b u hu
   cases hu with|ag h1 h2 h3=>?_
   rename_i arr
   have e0:=h3 0 _ rfl
   have e1:=h3 1 _ rfl
   generalize Ur:arr.getD 0 undef=v0 at e0
   generalize UT:arr.getD 1 undef=v1 at e1
   cases e0 with|d e0=>?_
   cases e0 with|sc _ _=>?_
   cases e1 with|d e1=>?_
   cases e1 with|sc _ _=>?_
   congr 1
   have fo:arr.size=2:=h1
   apply Array.ext
   ·rw[fo];rfl
   ·intro i mE Sw
    have hi:i=0\/i=1:=by omega
    rcases hi with rfl|rfl
    ·have:arr[0]=arr.getD 0 undef:=by simp [Array.getD,fo]
     rw[this,Ur];rfl
    ·have:arr[1]=arr.getD 1 undef:=by simp [Array.getD,fo]
     rw[this,UT];rfl
  rw[two hx,two hy]
  obtain⟨e,i,h1,h2,h3,h4,h5⟩:=At ha
  have hr:=zN ha a b c d w
  split at h
  ·refine⟨_,_,?_,.d (.sc _ rfl),h⟩
   simp [eqGuard,binOp,Sem.run_bind,hr,Result.andThen_ok,h5]
  ·refine⟨_,_,?_,.d (.sc _ rfl),h⟩
   simp [eqGuard,binOp,Sem.run_bind,hr,Result.andThen_ok,h5]
  ·exact h.elim
 ·rename_i k1 a k2 b k3 c k4 a' k5 b' k6 c'
  obtain⟨⟨ht,rfl,rfl,rfl,rfl,rfl⟩,h⟩:=h
  have three:∀{k:IntKind}{a b c:Int}{u:Value},aw σ s w (.ag [.d (.sc (.int k a)),.d (.sc (.int k b)),.d (.sc (.int k c))]) u->u=.agg #[.int k a,.int k b,.int k c]:=by
   intro k a b c u hu
   cases hu with|ag h1 h2 h3=>?_
   rename_i arr
   have e0:=h3 0 _ rfl
   have e1:=h3 1 _ rfl
   have e2:=h3 2 _ rfl
   generalize Ur:arr.getD 0 undef=v0 at e0
   generalize UT:arr.getD 1 undef=v1 at e1
   generalize Yt:arr.getD 2 undef=v2 at e2
   cases e0 with|d e0=>?_
   cases e0 with|sc _ _=>?_
   cases e1 with|d e1=>?_
   cases e1 with|sc _ _=>?_
   cases e2 with|d e2=>?_
   cases e2 with|sc _ _=>?_
   congr 1
   have fo:arr.size=3:=h1
   apply Array.ext
   ·rw[fo];rfl
   ·intro i mE Sw
    have hi:i=0\/i=1\/i=2:=by omega
    rcases hi with rfl|rfl|rfl
    ·have:arr[0]=arr.getD 0 undef:=by simp [Array.getD,fo]
     rw[this,Ur];rfl
    ·have:arr[1]=arr.getD 1 undef:=by simp [Array.getD,fo]
     rw[this,UT];rfl
    ·have:arr[2]=arr.getD 2 undef:=by simp [Array.getD,fo]
     rw[this,Yt];rfl
  rw[three hx,three hy]
  obtain⟨_,_,_,_,_,_,_,_,_,_,_,_,h5⟩:=Bk ht
  have hr:=zS ht a b c a' b' c' w
  split at h
  ·refine⟨_,_,?_,.d (.sc _ rfl),h⟩
   simp [eqGuard,binOp,Sem.run_bind,hr,Result.andThen_ok,h5]
  ·exact h.elim
 ·exact h.elim
theorem Gl {P:Program}{op:BinOp}{t:TypeId}{xo yo:Operand}{x y:V}{ux uy:Value}{σ:Gh}{s:List Obj}{w:World}{K:V->Prop} (hx:aw σ s w x ux) (hy:aw σ s w y uy) (h:cN P op t s x y K) :
  ∃v c,(do eqGuard op t xo yo ux uy;binOp op t ux uy:Sem Value).run P w=.ok c w/\aw σ s w v c/\K v:=by
 have bl:∀(b:Bool),K (.d (.sc (.bool b)))->(do eqGuard op t xo yo ux uy;binOp op t ux uy:Sem Value).run P w=.ok (.bool b) w ->
   ∃v c,(do eqGuard op t xo yo ux uy;binOp op t ux uy:Sem Value).run P w=.ok c w/\aw σ s w v c/\K v:=fun b hk hr=>⟨_,_,hr,.d (.sc _ rfl),hk⟩
 unfold cN at h
 split at h
 ·rename_i k a k' b
  obtain⟨rfl,h⟩:=h
  cases hx with|d hx=>?_
  cases hx with|sc _ _=>?_
  cases hy with|d hy=>?_
  cases hy with|sc _ _=>?_
  have it:∀(n:Int),K (.d (.sc (.int k n)))->(do eqGuard op t xo yo (.int k a) (.int k b);binOp op t (.int k a) (.int k b):Sem Value).run P w=.ok (.int k n) w ->
   ∃v c,(do eqGuard op t xo yo (.int k a) (.int k b);binOp op t (.int k a) (.int k b):Sem Value).run P w=.ok c w/\aw σ s w v c/\K v:=fun n hk hr=>⟨_,_,hr,.d (.sc _ rfl),hk⟩
  cases op <;> simp only[dX]at h
  case add=>exact it _ h (by simp [eqGuard,binOp,Op.intArith])
  case sub=>exact it _ h (by simp [eqGuard,binOp,Op.intArith])
  case mul=>exact it _ h (by simp [eqGuard,binOp,Op.intArith])
  case quo=>exact it _ h.2 (by simp [eqGuard,binOp,Op.intDiv,h.1])
  case rem=>exact it _ h.2 (by simp [eqGuard,binOp,Op.intDiv,h.1])
  case and=>exact it _ h (by simp [eqGuard,binOp,Op.intBits,eb])
  case or=>exact it _ h (by simp [eqGuard,binOp,Op.intBits,eb])
  case xor=>exact it _ h (by simp [eqGuard,binOp,Op.intBits,eb])
  case eql=>exact bl _ h (by simp [eqGuard,binOp,Op.intCmp];rfl)
  case neq=>exact bl _ h (by simp [eqGuard,binOp,Op.intCmp];rfl)
  case lss=>exact bl _ h (by simp [eqGuard,binOp,Op.intCmp])
  case leq=>exact bl _ h (by simp [eqGuard,binOp,Op.intCmp])
  case gtr=>exact bl _ h (by simp [eqGuard,binOp,Op.intCmp])
  case geq=>exact bl _ h (by simp [eqGuard,binOp,Op.intCmp])
 ·rename_i a b
  obtain⟨hu,h⟩:=h
  cases hx with|d hx=>?_
  cases hx with|sc _ _=>?_
  cases hy with|d hy=>?_
  cases hy with|sc _ _=>?_
  split at h
  ·exact bl _ h (tt hu a b w xo yo).1
  ·exact bl _ h (tt hu a b w xo yo).2
  ·exact h.elim
 ·obtain⟨⟨e,hu⟩,h⟩:=h
  cases hx with|d hx=>?_
  cases hx with|sc _ _=>?_
  cases hy with|d hy=>?_
  cases hy with|sc _ _=>?_
  split at h
  ·exact bl _ h (wI hu w xo yo).1
  ·exact bl _ h (wI hu w xo yo).2
  ·exact h.elim
 ·exact Jz hx hy h
 ·obtain⟨hp,⟨e,hu⟩,h⟩:=h
  obtain⟨ad,rfl⟩:=GA hx hp
  cases hy with|d hy=>?_
  cases hy with|sc _ _=>?_
  split at h
  ·exact bl _ h (wo hu ad w xo yo).1
  ·exact bl _ h (wo hu ad w xo yo).2
  ·exact h.elim
 ·exact h.elim
def mv:BinOp->Bool
 |.shl=>true
 |.shr=>true
 |_=>false
def Vw (op:BinOp) (k:IntKind) (a b:Int):Int :=
 match op with
 |.shl=>k.wrap (a*2 ^ min b.toNat k.bits)
 |_=>a.fdiv (2 ^ min b.toNat k.bits)
def oI (op:BinOp) (x y:V) (K:V->Prop):Prop :=
 match x,y with
 |.d (.sc (.int k a)),.d (.sc (.int _ b))=>0<=b/\K (.d (.sc (.int k (Vw op k a b))))
 |_,_=>False
def na (P:Program) (op:BinOp) (t:TypeId) (s:List Obj) (x y:V) (K:V->Prop):Prop :=
 match mv op with
 |true=>oI op x y K
 |false=>cN P op t s x y K
theorem JG {P:Program}{op:BinOp}{t:TypeId}{xo yo:Operand}{x y:V}{ux uy:Value}{σ:Gh}{s:List Obj}{w:World}{K:V->Prop} (hx:aw σ s w x ux) (hy:aw σ s w y uy) (h:na P op t s x y K) :
  ∃v c,(do eqGuard op t xo yo ux uy;binOp op t ux uy:Sem Value).run P w=.ok c w/\aw σ s w v c/\K v:=by
 unfold na at h
 split at h
 ·rename_i hs
  unfold oI at h
  split at h
  ·rename_i k a k' b
   obtain⟨hb,h⟩:=h
   cases hx with|d hx=>?_
   cases hx with|sc _ _=>?_
   cases hy with|d hy=>?_
   cases hy with|sc _ _=>?_
   have JT:¬b<0:=by omega
   cases op <;> simp only[mv,Bool.false_eq_true]at hs
   ·exact⟨_,_,by simp [eqGuard,binOp,Op.shift,JT,Vw],.d (.sc _ rfl),h⟩
   ·exact⟨_,_,by simp [eqGuard,binOp,Op.shift,JT,Vw],.d (.sc _ rfl),h⟩
  ·exact h.elim
 ·exact Gl hx hy h
def xm (op:UnOp) (x:V) (K:V->Prop):Prop :=
 match op,x with
 |.neg,.d (.sc (.int k n))=>K (.d (.sc (.int k (k.wrap (0-n)))))
 |.not,.d (.sc (.bool b))=>K (.d (.sc (.bool !b)))
 |_,_=>False
theorem Le {P:Program}{op:UnOp}{x:V}{ux:Value}{σ:Gh}{s:List Obj}{w:World}{K:V->Prop} (hx:aw σ s w x ux) (h:xm op x K) :
  ∃v c,(Op.unary op ux).run P w=.ok c w/\aw σ s w v c/\K v:=by
 unfold xm at h
 split at h
 ·cases hx with|d hx=>?_
  cases hx with|sc _ _=>?_
  exact⟨_,_,by simp [Op.unary,Op.intArith],.d (.sc _ rfl),h⟩
 ·cases hx with|d hx=>?_
  cases hx with|sc _ _=>?_
  exact⟨_,_,by simp [Op.unary],.d (.sc _ rfl),h⟩
 ·exact h.elim
def nh (P:Program) (src dst:TypeId) (x:V) (K:V->Prop):Prop :=
 match x with
 |.d (.sc (.int _ n))=>match P.underlying src,P.underlying dst with
  |some (.int _),some (.int k)=>K (.d (.sc (.int k (k.wrap n))))
  |_,_=>False
 |_=>False
theorem Gr {P:Program}{src dst:TypeId}{x:V}{ux:Value}{σ:Gh}{s:List Obj}{w:World}{K:V->Prop} (hx:aw σ s w x ux) (h:nh P src dst x K) :
  ∃v c,(convert src dst ux).run P w=.ok c w/\aw σ s w v c/\K v:=by
 unfold nh at h
 split at h
 case h_2=>exact h.elim
 cases hx with|d hx=>?_
 cases hx with|sc _ _=>?_
 split at h
 case h_2=>exact h.elim
 rename_i h1 h2
 exact⟨_,_,by simp [convert,run_underlying h1,run_underlying h2,Conv.intToInt],.d (.sc _ rfl),h⟩
def ed (mn:Bool) (acc:V):List V->(V->Prop)->Prop
 |[],K=>K acc
 |y::rest,K=>match acc,y with
  |.d (.sc (.int k a)),.d (.sc (.int _ b))=>ed mn (.d (.sc (.int k (if mn then min a b else max a b)))) rest K
  |_,_=>False
theorem oD {P:Program}{mn:Bool}{σ:Gh}{s:List Obj}{w:World}:∀(ys:List V) (us:List Value) (acc:V) (c:Value) (K:V->Prop),aw σ s w acc c->us.length=ys.length ->
  (∀(i:Nat) (y:V),ys[i]?=some y->∃u,us[i]?=some u/\aw σ s w y u)->ed mn acc ys K ->
  ∃v r,(us.foldlM (if mn then Builtin.min2 else Builtin.max2) c).run P w=.ok r w/\aw σ s w v r/\K v
 |[],[],acc,c,K,hr,_,_,h=>⟨acc,c,by simp,hr,h⟩
 |[],_::_,_,_,_,_,hl,_,_=>by simp at hl
 |_::_,[],_,_,_,_,hl,_,_=>by simp at hl
 |y::ys,u::us,acc,c,K,hr,hl,hy,h=>by
  obtain⟨u',hu,uQ⟩:=hy 0 y rfl
  simp only[List.getElem?_cons_zero,Option.some.injEq]at hu
  subst hu
  unfold ed at h
  split at h
  ·cases hr with|d hr=>?_
   cases hr with|sc _ _=>?_
   cases uQ with|d uQ=>?_
   cases uQ with|sc _ _=>?_
   rename_i k a k' b _ _
   obtain⟨v,r,h1,h2,h3⟩:=oD (P:=P) (mn:=mn) ys us _ (.int k (if mn then min a b else max a b)) K (.d (.sc _ rfl)) (by simpa using hl) (fun i z hz=>hy (i+1) z (by simpa using hz)) h
   refine⟨v,r,?_,h2,h3⟩
   rw[List.foldlM_cons]
   cases mn
   ·have:(if b>a then b else a)=max a b:=by omega
    simp only[Bool.false_eq_true,if_false]at h1 ⊢
    simp [Builtin.max2,this,h1]
   ·have:(if b<a then b else a)=min a b:=by omega
    simp only[if_true]at h1 ⊢
    simp [Builtin.min2,this,h1]
  ·exact h.elim
def E0 (e0:V) (b a:Nat):V :=
 match e0 with
 |.pp id g i off b' a'=>if b'=b/\a'=a then .pp id g i off b' a' else .d (.sc (.pointer (some ⟨b,a,none⟩)))
 |_=>.d (.sc (.pointer (some ⟨b,a,none⟩)))
def cX (e0:V):D->V
 |.sc (.pointer (some ⟨b,a,none⟩))=>E0 e0 b a
 |.el [x]=>.bx (cX e0 x)
 |.cl fn first ai=>.cl fn (go first) (go ai)
 |x=>.d x
where go:List D->List V
 |[]=>[]
 |x::l=>cX e0 x::go l
theorem El (e0:V):∀l:List D,cX.go e0 l=l.map (cX e0)
 |[]=>rfl
 |x::l=>by simp [cX.go,El e0 l]
theorem F9 {σ:Gh}{s:List Obj}{w:World}{e0:V}{u0:Value} (h0:aw σ s w e0 u0) {x:D}{u:Value} (hr:cu (Own σ s) w x u):aw σ s w (cX e0 x) u:=by
 have g:∀(l:List D) (i:Nat) (y:V),(l.map (cX e0))[i]?=some y->∃x,l[i]?=some x/\cX e0 x=y:=fun l i y hy=>by
  rw[List.getElem?_map]at hy
  exact Option.map_eq_some_iff.1 hy
 induction hr with
 |sc v hv =>
  have hd:aw σ s w (.d (.sc v)) v:=.d (.sc v hv)
  unfold cX
  split
  ·rename_i b a hx
   cases hx
   unfold E0
   split
   ·split
    ·rename_i hc
     obtain⟨rfl,rfl⟩:=hc
     have:=h0.BA
     subst this
     exact h0
    ·exact hd
   ·exact hd
  ·rename_i hx;cases hx
  ·rename_i hx;cases hx
  ·exact hd
 |nil=>exact .d .nil
 |sl au a cap sz f h1 h2 h3 h4 h5 _=>exact .d (.sl au a cap sz f h1 h2 h3 h4 h5)
 |el cs a f h1 h2 h3 ih =>
  match cs,h2,h3,ih with
  |[],h2,h3,_=>exact .d (.el [] a f h1 h2 h3)
  |[x],h2,h3,ih =>
   simp only[cX]
   exact .bx h1 (h2 0 x rfl).1 (h2 0 x rfl).2 (h3 0 x rfl).one (ih 0 x rfl)
  |x::y::l,h2,h3,_=>exact .d (.el (x::y::l) a f h1 h2 h3)
 |cl h1 _ h3 _ u9 u5 =>
  simp only[cX,El]
  refine .cl (by simpa using h1) (fun i y hy=>?_) (by simpa using h3) (fun i y hy=>?_)
  ·obtain⟨x,hx,rfl⟩:=g _ i y hy;exact u9 i x hx
  ·obtain⟨x,hx,rfl⟩:=g _ i y hy;exact u5 i x hx
 |ub b=>exact .d (.ub b)
def zV (e0 x:V):V :=
 match x with
 |.d (.cl fn first ai)=>cX e0 (.cl fn first ai)
 |.d (.sc (.func fn ⟨[]⟩ ⟨[]⟩))=>.cl fn [] []
 |x=>x
theorem Iw {σ:Gh}{s:List Obj}{w:World}{e0 x:V}{u0 u:Value} (h0:aw σ s w e0 u0) (hx:aw σ s w x u):aw σ s w (zV e0 x) u:=by
 unfold zV
 split
 ·cases hx with|d hx=>exact F9 h0 hx
 ·cases hx with
  |d hx =>
   cases hx with
   |sc _ _=>exact .cl rfl (fun i x hx=>by simp at hx) rfl (fun i x hx=>by simp at hx)
 ·exact hx
def G7 (P:Program) (f:FuncId):Bool :=
 match P.funcs[f]? with
 | some fn => fn.name != "runtime.NumGoroutine" && fn.body.isSome
 |none=>false
def aq (P:Program) (f:FuncId) (args:List V) (s:List Obj) (K:V->List Obj->Prop):Prop :=
 G7 P f=true/\∀(σ:Gh) (w:World) (vals:Array Value),Inv σ s w->vals.size=args.length->(∀(i:Nat) (x:V),args[i]?=some x->aw σ s w x (vals.getD i undef)) ->
  Calls P f vals w fun e w'=>∃u v σ' s',e=.returned u/\aA σ s w σ' s' w'/\Inv σ' s' w'/\aw σ' s' w' v u/\K v s'
theorem BE {P:Program}{f:FuncId} (h:G7 P f=true) (args:Array Value) (w:World):(callFunc f args).run P w=.ok (.enter f args) w:=by
 unfold G7 at h
 split at h
 ·rename_i fn hf
  simp only[Bool.and_eq_true,bne_iff_ne,ne_eq]at h
  obtain⟨h1,h2⟩:=h
  cases hb:fn.body with
  |none=>rw[hb]at h2;cases h2
  |some c=>simp [callFunc,hf,h1,hb]
 ·cases h
def fw (P:Program) (c:Call) (e:Nat->V) (s:List Obj) (K:V->List Obj->Prop):Prop :=
 match c.callee with
 |.value (.func f)=>aq P f (c.args.toList.map (ev e)) s K
 |.value f=>match zV (e 0) (ev e f) with
  |.cl (.func g) first ai=>aq P g (first++c.args.toList.map (ev e)++ai) s K
  |_=>False
 |.builtin b=>match b,c.args.toList,c.argTypes.toList with
  |.len,[x],[t]=>jG P t (ev e x) s fun v=>K v s
  |.append,[a,x],[t,t']=>if t=t' then cP P t (ev e a) (ev e x) s K else jd P t t' (ev e a) (ev e x) s K
  |.copy,[a,x],[t,t']=>t=t'/\vf P t (ev e a) (ev e x) s K
  |.clear,[x],[t]=>mD P t (ev e x) s K
  |.min,x::rest,_=>ed true (ev e x) (rest.map (ev e)) fun v=>K v s
  |.max,x::rest,_=>ed false (ev e x) (rest.map (ev e)) fun v=>K v s
  |.cap,[x],[t]=>Fe P t (ev e x) fun v=>K v s
  |_,_,_=>False
 |_=>False
def ic (s:List Obj) (x:V) (K:V->Prop):Prop :=
 match x with
 |.d (.el cs)=>K (.d (.el cs))
 |.rf id g i off=>rj s id g fun _=>K (.rf id g i off)
 |.pp id g i off b a=>rj s id g fun _=>K (.pp id g i off b a)
 |.d (.sc (.pointer (some ad)))=>K (.d (.sc (.pointer (some ad))))
 |.cl (.func f) first ai=>K (.cl (.func f) first ai)
 |_=>False
def yD (e0:V) (b a:Nat):V :=
 match e0 with
 |.pp id g i off b' a'=>if b'=b/\a'<=a then .rf id g i (off+(a-a')) else .d (.sc (.pointer (some ⟨b,a,none⟩)))
 |_=>.d (.sc (.pointer (some ⟨b,a,none⟩)))
def sa (e0 p:V):V :=
 match p with
 |.d (.sc (.pointer (some ⟨b,a,none⟩)))=>yD e0 b a
 |p=>p
theorem GZ {σ:Gh}{s:List Obj}{w:World}{e0 p:V}{u0 u:Value} (h0:aw σ s w e0 u0) (hp:aw σ s w p u):aw σ s w (sa e0 p) u:=by
 unfold sa
 split
 ·rename_i b a
  unfold yD
  split
  ·split
   ·rename_i id g i off b' a' hc
    obtain⟨rfl,hle⟩:=hc
    cases hp with|d hp=>?_
    cases hp with|sc _ _=>?_
    cases h0 with
    |pp o ho hg hk =>
     refine .rf o ho hg rfl fun he=>?_
     obtain⟨base,k1,k2,k3⟩:=hk he
     exact⟨b',base,k1,k2,by congr 3;omega⟩
   ·exact hp
  ·exact hp
 ·exact hp
def fz (x:V) (A B:Prop):Prop :=
 match x with
 |.d (.sc (.bool b))=>(b=true->A)/\(b=false->B)
 |_=>False
def uj (x:V) (i:Nat) (K:V->Prop):Prop :=
 match x with
 |.tu vs=>match vs[i]? with
  |some v=>K v
  |none=>False
 |_=>False
def cz (P:Program) (o:Oper) (e:Nat->V) (s:List Obj) (K:V->List Obj->Prop):Prop :=
 match o.op with
 |.move x=>K (ev e x) s
 |.assign x=>K (ev e x) s
 |.pick c a b=>fz (ev e c) (K (ev e a) s) (K (ev e b) s)
 |.alloc t=>mW P t s K
 |.box _ x=>wR s (ev e x) K
 |.build t parts=>mX P t (parts.toList.map fun p=>(p.1,ev e p.2)) fun v=>K v s
 |.buildSlice t n parts=>dK P t n (parts.toList.map fun p=>(p.1,ev e p.2)) s K
 |.load t a=>jJ P t s (sa (e 0) (ev e a)) fun v=>K v s
 |.store t a x=>fK P t s (ev e a) (ev e x) fun s'=>K .un s'
 |.nilCheck x=>ic s (ev e x) fun v=>K v s
 |.binOp op t x y _=>bif Kq y then dv P op t s (ev e x) (fun v=>K v s) else na P op t s (ev e x) (ev e y) fun v=>K v s
 |.unOp op _ x=>xm op (ev e x) fun v=>K v s
 |.convert src dst x=>nh P src dst (ev e x) fun v=>K v s
 |.makeFunc fn first ai=>K (.cl fn (first.toList.map (ev e)) (ai.toList.map (ev e))) s
 |.makeSlice t l c=>eV P t (ev e l) (ev e c) s K
 |.slice t x lo hi mx=>jw P t (ev e x) (lo.map (ev e)) (hi.map (ev e)) (mx.map (ev e)) s fun v=>K v s
 |.fieldAddr t x f=>dN P t s (ev e x) f fun v=>K v s
 |.field t x f=>kz P t (ev e x) f fun v=>K v s
 |.indexAddr t x i=>c7 P t s (ev e x) (ev e i) fun v=>K v s
 |.index t x i=>iL P t (ev e x) (ev e i) fun v=>K v s
 |.extract x i=>uj (ev e x) i fun v=>K v s
 |.call c=>fw P c e s K
 |.makeMap t r=>lK P t r s K
 |.lookup t x i ok=>bif ok then False else gN P t s (ev e x) (ev e i) fun v=>K v s
 |.mapUpdate t m k x=>si P t s (ev e m) (ev e k) (ev e x) fun s'=>K .un s'
 |.insert t m k x=>si P t s (ev e m) (ev e k) (ev e x) fun s'=>K .un s'
 |_=>False
def dt (σ:Gh) (s:List Obj) (w:World) (N:Nat) (e:Nat->V) (a:Act):Prop :=
 a.defers=[]/\a.tmps.size=N/\∀t,aw σ s w (e t) (a.tmps.getD t undef)
theorem dt.ev {σ s w N e a} (h:dt σ s w N e a) (x:Operand):aw σ s w (ev e x) (a.eval x):=by
 cases x with
 |tmp t=>exact h.2.2 t
 |const v=>exact NJ v
 |global g=>exact .any
 |func f=>exact .cl rfl (fun i x hx=>by simp at hx) rfl (fun i x hx=>by simp at hx)
def sd (P:Program) (o:Oper) (σ:Gh) (s:List Obj) (w:World) (a:Act) (K:V->List Obj->Prop):Prop :=
 o.wp P a w (fun a' w'=>∃u v σ' s',a'=a.put o.dst u/\aA σ s w σ' s' w'/\Inv σ' s' w'/\aw σ' s' w' v u/\K v s') (fun _ _ _=>False)
theorem dW {P:Program}{o:Oper}{σ:Gh}{s:List Obj}{w:World}{a:Act}{K:V->List Obj->Prop}{u:Value}{v:V}{σ':Gh}{s':List Obj}{w':World} (hr:(execOp a.eval o).run P w=.ok (.value u) w')
  (hE:aA σ s w σ' s' w') (hI:Inv σ' s' w') (hv:aw σ' s' w' v u) (hK:K v s'):sd P o σ s w a K:=by
 unfold sd Oper.wp
 rw[hr,Oper.upon_value]
 exact⟨u,v,σ',s',rfl,hE,hI,hv,hK⟩
theorem xz {σ:Gh}{s:List Obj}{w:World}{N:Nat}{e:Nat->V}{a:Act} (h:dt σ s w N e a) (l:List Operand):∀(i:Nat) (x:V),(l.map (ev e))[i]?=some x->∃u,(l.map a.eval)[i]?=some u/\aw σ s w x u:=by
 intro i x hx
 rw[List.getElem?_map]at hx ⊢
 obtain⟨y,hy,rfl⟩:=Option.map_eq_some_iff.1 hx
 rw[hy]
 exact⟨_,rfl,h.ev y⟩
theorem A9 {σ:Gh}{s:List Obj}{w:World}{N:Nat}{e:Nat->V}{a:Act} (h:dt σ s w N e a) (l:List (Nat×Operand)) :
  ∀(j:Nat) i x,(l.map fun p=>(p.1,ev e p.2))[j]?=some (i,x)->∃u,(l.map fun p=>(p.1,a.eval p.2))[j]?=some (i,u)/\aw σ s w x u:=by
 intro j i x hx
 rw[List.getElem?_map]at hx ⊢
 obtain⟨y,hy,h'⟩:=Option.map_eq_some_iff.1 hx
 simp only[Prod.mk.injEq]at h'
 obtain⟨rfl,rfl⟩:=h'
 rw[hy]
 exact⟨_,rfl,h.ev y.2⟩
theorem DB {P:Program}{o:Oper}{σ:Gh}{s:List Obj}{w:World}{a:Act}{K:V->List Obj->Prop}{f:FuncId}{vals:Array Value}{args:List V} (hr:(execOp a.eval o).run P w=(callFunc f vals).run P w)
  (hI:Inv σ s w) (hl:vals.size=args.length) (hv:∀(i:Nat) (x:V),args[i]?=some x->aw σ s w x (vals.getD i undef)) (h:aq P f args s K):sd P o σ s w a K:=by
 unfold sd Oper.wp
 rw[hr,BE h.1,Oper.upon_enter]
 refine(h.2 σ w vals hI hl hv).mono fun e w' ⟨u,v,σ',s',he,hE,im,hR,hK⟩=>?_
 subst he
 exact⟨u,v,σ',s',rfl,hE,im,hR,hK⟩
theorem ot {l:List Value}{i:Nat}{u:Value} (h:l[i]?=some u) (d:Value):l.toArray.getD i d=u:=by
 have az:=(List.getElem?_eq_some_iff.1 h).1
 have:=(List.getElem?_eq_some_iff.1 h).2
 simp [Array.getD,az,this]
theorem zb {P:Program}{N:Nat}{o:Oper}{σ:Gh}{s:List Obj}{w:World}{e:Nat->V}{a:Act}{K:V->List Obj->Prop} (hI:Inv σ s w) (hR:dt σ s w N e a) (h:cz P o e s K):sd P o σ s w a K:=by
 obtain⟨dst,op,ty,pos,after,guard⟩:=o
 have ro:∀{v:V}{c:Value}{s1:Sem Value},s1.run P w=.ok c w->(do pure (Next.value (<- s1)):Sem Next).run P w=.ok (.value c) w:=fun h=>by simp [h]
 have r1:∀{c:Value}{w':World}{s1:Sem Value},s1.run P w=.ok c w'->(do pure (Next.value (<- s1)):Sem Next).run P w=.ok (.value c) w':=fun h=>by simp [h]
 have same:∀{v:V}{c:Value},(execOp a.eval ⟨dst,op,ty,pos,after,guard⟩).run P w=.ok (.value c) w->aw σ s w v c->K v s->sd P ⟨dst,op,ty,pos,after,guard⟩ σ s w a K :=
  fun hr hv hk=>dW hr (aA.refl _ _ _) hI hv hk
 cases op <;> simp only[cz]at h
 case move x=>exact same (by simp [execOp]) (hR.ev x) h
 case assign x=>exact same (by simp [execOp]) (hR.ev x) h
 case pick c x y =>
  unfold fz at h
  split at h
  ·rename_i b hb
   have hc:=hR.ev c
   rw[hb]at hc
   generalize tm:a.eval c=Pv at hc
   cases hc with|d hc=>?_
   cases hc with|sc _ _=>?_
   cases b
   ·exact same (c:=a.eval y) (by simp [execOp,tm,asBool]) (hR.ev y) (h.2 rfl)
   ·exact same (c:=a.eval x) (by simp [execOp,tm,asBool]) (hR.ev x) (h.1 rfl)
  ·exact h.elim
 case alloc t =>
  obtain⟨v,c,σ',s',w',k1,k2,k3,k4,k5⟩:=EV hI h
  exact dW (by simp only[execOp];exact r1 k1) k2 k3 k4 k5
 case box t x =>
  obtain⟨v,c,σ',s',w',k1,k2,k3,k4,k5⟩:=I5 (P:=P) (t:=t) hI (hR.ev x) h
  exact dW (by simp only[execOp];exact r1 k1) k2 k3 k4 k5
 case build t parts =>
  obtain⟨v,c,k1,k2,k3⟩:=DP (by simp) (A9 hR parts.toList) h
  refine same (c:=c) ?_ k2 k3
  simp only[execOp]
  refine r1 ?_
  rw[<- List.map_toArray]at k1
  simpa using k1
 case buildSlice t n parts =>
  obtain⟨v,c,σ',s',w',k1,k2,k3,k4,k5⟩:=vP hI (by simp) (A9 hR parts.toList) h
  refine dW ?_ k2 k3 k4 k5
  simp only[execOp]
  refine r1 ?_
  rw[<- List.map_toArray]at k1
  simpa using k1
 case load t x =>
  obtain⟨v,c,k1,k2,k3⟩:=y9 hI (GZ (hR.2.2 0) (hR.ev x)) h
  exact same (by simp only[execOp];exact r1 k1) k2 k3
 case store t x y =>
  obtain⟨s',w',k1,k2,k3,k4⟩:=Da hI (hR.ev x) (hR.ev y) h
  unfold sd Oper.wp
  simp only[execOp,Sem.run_bind,k1,Result.andThen_ok,Sem.run_pure,Oper.upon_skip]
  exact⟨undef,.un,σ,s',rfl,k2,k3,.un,k4⟩
 case nilCheck x =>
  unfold ic at h
  have hx:=hR.ev x
  split at h
  ·rename_i jO
   rw[jO]at hx
   generalize tm:a.eval x=Pv at hx
   cases hx with|d hx=>?_
   cases hx with|el _ ad f h1 h2 h3=>?_
   exact same (c:=.pointer (some ad)) (by simp [execOp,tm]) (.d (.el _ ad f h1 h2 h3)) h
  ·rename_i jO
   obtain⟨o,ho,hg,h⟩:=dA h
   rw[jO]at hx
   obtain⟨b,base,_,_,hp⟩:=GY hx ho hg
   exact same (c:=a.eval x) (by simp [execOp,hp]) hx h
  ·rename_i jO
   obtain⟨o,ho,hg,h⟩:=dA h
   rw[jO]at hx
   have hp:=hx.BA
   exact same (c:=a.eval x) (by simp [execOp,hp]) hx h
  ·rename_i jO
   rw[jO]at hx
   generalize tm:a.eval x=Pv at hx
   cases hx with|d hx=>?_
   cases hx with|sc _ hv=>?_
   exact same (by simp [execOp,tm]) (.d (.sc _ hv)) h
  ·rename_i jO
   rw[jO]at hx
   generalize tm:a.eval x=Pv at hx
   cases hx with|cl h1 h2 h3 h4=>?_
   exact same (c:=.func _ _ _) (by simp [execOp,tm]) (.cl h1 h2 h3 h4) h
  ·exact h.elim
 case binOp op t x y yt =>
  cases hn:Kq y with
  |true =>
   simp only[hn,cond_true]at h
   have hy:y=.const (.slice none 0 0):=by
    unfold Kq at hn
    split at hn
    ·rfl
    ·cases hn
   subst hy
   obtain⟨v,c,k1,k2,k3⟩:=Fc (xo:=x) (yo:=.const (.slice none 0 0)) (hR.ev x) h
   exact same (by simp only[execOp];exact r1 k1) k2 k3
  |false =>
   simp only[hn,cond_false]at h
   obtain⟨v,c,k1,k2,k3⟩:=JG (xo:=x) (yo:=y) (hR.ev x) (hR.ev y) h
   exact same (by simp only[execOp];exact r1 k1) k2 k3
 case unOp op t x =>
  obtain⟨v,c,k1,k2,k3⟩:=Le (P:=P) (hR.ev x) h
  exact same (by simp only[execOp];exact r1 k1) k2 k3
 case convert src d x =>
  obtain⟨v,c,k1,k2,k3⟩:=Gr (hR.ev x) h
  exact same (by simp only[execOp];exact r1 k1) k2 k3
 case makeFunc fn first ai =>
  have key:∀(l:Array Operand) (i:Nat) (x:V),(l.toList.map (ev e))[i]?=some x->aw σ s w x ((l.map a.eval).getD i undef):=by
   intro l i x hx
   obtain⟨u,h1,h2⟩:=xz hR l.toList i x hx
   have:=ot h1 undef
   rw[<- List.map_toArray]at this
   simp only[Array.toArray_toList]at this
   rw[this];exact h2
  refine same (c:=.func fn (first.map a.eval) (ai.map a.eval)) (by simp [execOp,Instr.makeFunc]) (.cl (by simp) (key first) (by simp) (key ai)) h
 case makeSlice t l c =>
  obtain⟨v,r,σ',s',w',k1,k2,k3,k4,k5⟩:=xj hI (hR.ev l) (hR.ev c) h
  exact dW (by simp only[execOp];exact r1 k1) k2 k3 k4 k5
 case slice t x lo hi mx =>
  have opt:∀(y:Option Operand) (v:V),y.map (ev e)=some v->∃c,y.map a.eval=some c/\aw σ s w v c:=by
   intro y v hv
   cases y with
   |none=>cases hv
   |some y=>simp only[Option.map_some,Option.some.injEq]at hv;subst hv;exact⟨_,rfl,hR.ev y⟩
  have Pu:∀(y:Option Operand),y.map (ev e)=none->y.map a.eval=none:=by
   intro y hv
   cases y with
   |none=>rfl
   |some y=>cases hv
  obtain⟨v,c,k1,k2,k3⟩:=EC (hR.ev x) (opt lo) (Pu lo) (opt hi) (Pu hi) (opt mx) (Pu mx) h
  exact same (by simp only[execOp];exact r1 k1) k2 k3
 case fieldAddr t x f =>
  obtain⟨v,c,k1,k2,k3⟩:=xu (hR.ev x) h
  exact same (by simp only[execOp];exact r1 k1) k2 k3
 case field t x f =>
  obtain⟨v,c,k1,k2,k3⟩:=DN (hR.ev x) h
  exact same (by simp only[execOp];exact r1 k1) k2 k3
 case indexAddr t x i =>
  obtain⟨v,c,k1,k2,k3⟩:=xg (hR.ev x) (hR.ev i) h
  exact same (by simp only[execOp];exact r1 k1) k2 k3
 case index t x i =>
  obtain⟨v,c,k1,k2,k3⟩:=Ds (hR.ev x) (hR.ev i) h
  exact same (by simp only[execOp];exact r1 k1) k2 k3
 case extract x i =>
  unfold uj at h
  have hx:=hR.ev x
  split at h
  case h_2=>exact h.elim
  rename_i vs jO
  rw[jO]at hx
  split at h
  case h_2=>exact h.elim
  rename_i v hv
  generalize tm:a.eval x=Pv at hx
  cases hx with|tu h1 h2=>?_
  rename_i arr
  have az:=(List.getElem?_eq_some_iff.1 hv).1
  obtain⟨c,hc⟩:∃c,arr[i]?=some c:=⟨arr[i]'(by omega),by rw[Array.getElem?_eq_getElem]⟩
  have hd:arr.getD i undef=c:=by rw[Array.getD_eq_getD_getElem?,hc];rfl
  exact same (c:=c) (by simp [execOp,tm,Instr.extract,hc]) (by rw[<- hd];exact h2 i v hv) h
 case makeMap t r =>
  obtain⟨v,c,σ',s',w',k1,k2,k3,k4,k5⟩:=zH (P:=P) hI h
  have hr:r=none:=h.1
  subst hr
  exact dW (by simp only[execOp,Option.map_none];exact r1 k1) k2 k3 k4 k5
 case lookup t x i ok =>
  cases ok with
  |true=>exact h.elim
  |false =>
   simp only[cond_false]at h
   obtain⟨v,c,k1,k2,k3⟩:=BV hI (hR.ev x) (hR.ev i) h
   exact same (by simp only[execOp];exact r1 k1) k2 k3
 case mapUpdate t x y z =>
  obtain⟨s',w',k1,k2,k3,k4⟩:=AG hI (hR.ev x) (hR.ev y) (hR.ev z) h
  unfold sd Oper.wp
  simp only[execOp,Sem.run_bind,k1,Result.andThen_ok,Sem.run_pure,Oper.upon_skip]
  exact⟨undef,.un,σ,s',rfl,k2,k3,.un,k4⟩
 case insert t x y z =>
  obtain⟨s',w',k1,k2,k3,k4⟩:=AG hI (hR.ev x) (hR.ev y) (hR.ev z) h
  unfold sd Oper.wp
  simp only[execOp,Sem.run_bind,k1,Result.andThen_ok,Sem.run_pure,Oper.upon_skip]
  exact⟨undef,.un,σ,s',rfl,k2,k3,.un,k4⟩
 case call c =>
  obtain⟨callee,args,argTypes⟩:=c
  unfold fw at h
  have H6:∀(l:List Operand),l=args.toList->∀(i:Nat) (x:V),(l.map (ev e))[i]?=some x->∃u,(args.map a.eval).toList[i]?=some u/\aw σ s w x u:=by
   rintro l rfl i x hx
   obtain⟨u,h1,h2⟩:=xz hR args.toList i x hx
   exact⟨u,by simpa using h1,h2⟩
  split at h
  ·rename_i f hf
   simp only at hf
   subst hf
   refine DB (f:=f) (vals:=args.map a.eval) (by
    rw[execOp_call_go,Array.empty_append,Array.append_empty]) hI (by simp) (fun i x hx=>?_) h
   obtain⟨u,h1,h2⟩:=H6 _ rfl i x hx
   have:=ot h1 undef
   simp only[Array.toArray_toList]at this
   rw[this];exact h2
  ·rename_i f _ hf
   simp only at hf
   subst hf
   split at h
   ·rename_i g first ai iJ
    have hx:=Iw (hR.2.2 0) (hR.ev f)
    rw[iJ]at hx
    generalize tm:a.eval f=Pv at hx
    cases hx with|cl h1 h2 h3 h4=>?_
    rename_i f' c'
    refine DB (f:=g) (vals:=f'++args.map a.eval++c') (by
     simp [execOp,resolve,tm,Deferred.ofValue,invoke]) hI (by simp [h1,h3]) (fun i x hx=>?_) h
    have gd:∀(arr:Array Value) (j:Nat),j<arr.size->arr[j]?=some (arr.getD j undef):=fun arr j hj=>by simp [Array.getD,hj]
    by_cases mE:i<first.length
    ·rw[List.append_assoc,List.getElem?_append_left mE]at hx
     have:(f'++args.map a.eval++c').getD i undef=f'.getD i undef:=by
      rw[Array.getD_eq_getD_getElem?,Array.append_assoc,Array.getElem?_append_left (by omega),Array.getD_eq_getD_getElem?]
     rw[this];exact h2 i x hx
    ·rw[List.append_assoc,List.getElem?_append_right (by omega)]at hx
     simp only at hx
     by_cases Sw:i-first.length<(args.toList.map (ev e)).length
     ·rw[List.getElem?_append_left Sw]at hx
      obtain⟨u,k1,k2⟩:=H6 _ rfl _ x hx
      have:(f'++args.map a.eval++c').getD i undef=u:=by
       rw[Array.getD_eq_getD_getElem?,Array.append_assoc,Array.getElem?_append_right (by omega),Array.getElem?_append_left (by simp at Sw ⊢;omega),h1]
       rw[Array.getElem?_toList]at k1
       rw[k1];rfl
      rw[this];exact k2
     ·rw[List.getElem?_append_right (by omega)]at hx
      have:(f'++args.map a.eval++c').getD i undef=c'.getD (i-first.length-(args.toList.map (ev e)).length) undef:=by
       rw[Array.getD_eq_getD_getElem?,Array.append_assoc,Array.getElem?_append_right (by omega),Array.getElem?_append_right (by simp at Sw ⊢;omega),Array.getD_eq_getD_getElem?]
       congr 2
       simp [h1]
      rw[this];exact h4 _ x hx
   ·exact h.elim
  ·rename_i b hb
   simp only at hb
   subst hb
   have iE:∀(l:List Operand),args.toList=l->args=l.toArray:=fun l hl=>by rw[<- hl]
   have Lh:∀(l:List TypeId),argTypes.toList=l->argTypes=l.toArray:=fun l hl=>by rw[<- hl]
   split at h
   ·rename_i x t h1 h2
    have e1:=iE _ h1
    have e2:=Lh _ h2
    subst e1;subst e2
    obtain⟨v,c,k1,k2,k3⟩:=Iz (ty:=ty) (hR.ev x) h
    exact same (by simp [execOp,resolve,invoke,builtin,k1]) k2 k3
   ·rename_i x y t t' h1 h2
    have e1:=iE _ h1
    have e2:=Lh _ h2
    subst e1;subst e2
    split at h
    ·rename_i ht
     subst ht
     obtain⟨v,r,σ',s',w',k1,k2,k3,k4,k5⟩:=Cj (ty:=ty) hI (hR.ev x) (hR.ev y) h
     exact dW (by simp [execOp,resolve,invoke,builtin,k1]) k2 k3 k4 k5
    ·obtain⟨v,r,σ',s',w',k1,k2,k3,k4,k5⟩:=zO (ty:=ty) hI (hR.ev x) (hR.ev y) h
     exact dW (by simp [execOp,resolve,invoke,builtin,k1]) k2 k3 k4 k5
   ·rename_i x y t t' h1 h2
    have e1:=iE _ h1
    have e2:=Lh _ h2
    subst e1;subst e2
    obtain⟨rfl,h⟩:=h
    obtain⟨v,r,s',w',k1,k2,k3,k4,k5⟩:=Gm (ty:=ty) hI (hR.ev x) (hR.ev y) h
    exact dW (by simp [execOp,resolve,invoke,builtin,k1]) k2 k3 k4 k5
   ·rename_i x t h1 h2
    have e1:=iE _ h1
    have e2:=Lh _ h2
    subst e1;subst e2
    obtain⟨v,r,s',w',k1,k2,k3,k4,k5⟩:=EK (ty:=ty) hI (hR.ev x) h
    exact dW (by simp [execOp,resolve,invoke,builtin,k1]) k2 k3 k4 k5
   ·rename_i x rest h1
    have e1:=iE _ h1
    subst e1
    obtain⟨v,r,k1,k2,k3⟩:=oD (P:=P) (mn:=true) (rest.map (ev e)) (rest.map a.eval) (ev e x) (a.eval x) _ (hR.ev x) (by simp) (xz hR rest) h
    simp only[if_true]at k1
    exact same (by simp [execOp,resolve,invoke,builtin,Builtin.min_,k1]) k2 k3
   ·rename_i x rest h1
    have e1:=iE _ h1
    subst e1
    obtain⟨v,r,k1,k2,k3⟩:=oD (P:=P) (mn:=false) (rest.map (ev e)) (rest.map a.eval) (ev e x) (a.eval x) _ (hR.ev x) (by simp) (xz hR rest) h
    simp only[Bool.false_eq_true,if_false]at k1
    exact same (by simp [execOp,resolve,invoke,builtin,Builtin.max_,k1]) k2 k3
   ·rename_i x t h1 h2
    have e1:=iE _ h1
    have e2:=Lh _ h2
    subst e1;subst e2
    obtain⟨v,c,k1,k2,k3⟩:=Ju (ty:=ty) (hR.ev x) h
    exact same (by simp [execOp,resolve,invoke,builtin,k1]) k2 k3
   ·exact h.elim
  ·exact h.elim
end Go.VL
