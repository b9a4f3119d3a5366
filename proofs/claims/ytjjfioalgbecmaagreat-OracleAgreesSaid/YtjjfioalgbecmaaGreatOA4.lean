/- A part of the proof. -/
import Derived.Test.YtjjfioalgbecmaaGreatOA3
set_option linter.unusedSimpArgs false
set_option linter.unusedVariables false
set_option maxRecDepth 100000
set_option maxHeartbeats 80000000
namespace Go.VL
variable{σ:Gh}{w:World}{u:Value}{s:List Obj}{P:Program}{t:TypeId}{e:TypeId}{ux:Value}{K:V->Prop}{x:V}{k:IntKind}{u0:Value}{e0:V}{f:FuncId}{o:Oper}{a:Act}{N:Nat}
def jf (op:BinOp) (k:IntKind) (a b:Int):Int :=
 k.wrap (match op with
  |.and=>(BitVec.ofInt k.bits a &&& BitVec.ofInt k.bits b).toNat
  |.or=>(BitVec.ofInt k.bits a ||| BitVec.ofInt k.bits b).toNat
  |.xor=>(BitVec.ofInt k.bits a ^^^ BitVec.ofInt k.bits b).toNat
  |_=>(BitVec.ofInt k.bits a &&& ~~~BitVec.ofInt k.bits b).toNat)
def fy (op:BinOp) (k:IntKind) (a b:Int) (K:V->Prop):Prop :=
 match op with
 |.add=>K (.d (.sc (.int k (k.wrap (a+b)))))
 |.sub=>K (.d (.sc (.int k (k.wrap (a-b)))))
 |.mul=>K (.d (.sc (.int k (k.wrap (a*b)))))
 |.quo=>b≠0/\K (.d (.sc (.int k (k.wrap (a.tdiv b)))))
 |.rem=>b≠0/\K (.d (.sc (.int k (a.tmod b))))
 |.and=>K (.d (.sc (.int k (jf .and k a b))))
 |.or=>K (.d (.sc (.int k (jf .or k a b))))
 |.xor=>K (.d (.sc (.int k (jf .xor k a b))))
 |.eql=>K (.d (.sc (.bool (decide (a=b)))))
 |.neq=>K (.d (.sc (.bool (!decide (a=b)))))
 |.lss=>K (.d (.sc (.bool (decide (a<b)))))
 |.leq=>K (.d (.sc (.bool (decide (a<=b)))))
 |.gtr=>K (.d (.sc (.bool (decide (b<a)))))
 |.geq=>K (.d (.sc (.bool (decide (b<=a)))))
 |_=>False
def qs (s:List Obj):V->Prop
 |.d (.el _)=>True
 |.rf id g _ _=>wq s id g λ_=>True
 |.pp id g _ _ _ _=>wq s id g λ_=>True
 |_=>False
def jg (P:Program) (t:TypeId):Option (Nat×IntKind) :=
 match P.underlying t with
 |some (.array n e)=>match P.underlying e with
  |some (.int k)=>if (P.info? e).isSome=true/\P.cellsOf e=1/\P.eqGuardType P.depth t=false then some (n,k) else none
  |_=>none
 |_=>none
def Xh (P:Program) (t:TypeId):Option IntKind :=
 match P.underlying t with
 |some (.struct fields)=>match fields.toList with
  |[a,b,c]=>match P.underlying a.type,P.underlying b.type,P.underlying c.type with
   | some (.int k), some (.int k'), some (.int k'') => if (k' = k ∧ k'' = k ∧ a.offset = 0 ∧ b.offset = 1 ∧ c.offset = 2) ∧ (a.name ≠ "_" ∧ b.name ≠ "_" ∧ c.name ≠ "_") ∧ P.stoodInHeld t = false ∧ P.eqGuardType P.depth t = false then some k else none
   |_,_,_=>none
  |_=>none
 |_=>none
def jU (P:Program) (op:BinOp) (t:TypeId) (xs ys:List V) (K:V->Prop):Prop :=
 match xs,ys with
 |[.d (.sc (.int k1 a)),.d (.sc (.int k2 b))],[.d (.sc (.int k3 c)),.d (.sc (.int k4 d))]=>(jg P t=some (2,k1)/\k2=k1/\k3=k1/\k4=k1)/\match op with
  |.eql=>K (.d (.sc (.bool (a == c&&b == d))))
  |.neq=>K (.d (.sc (.bool (!(a == c&&b == d)))))
  |_=>False
 |[.d (.sc (.int k1 a)),.d (.sc (.int k2 b)),.d (.sc (.int k3 c))],[.d (.sc (.int k4 a')),.d (.sc (.int k5 b')),.d (.sc (.int k6 c'))]=>(Xh P t=some k1/\k2=k1/\k3=k1/\k4=k1/\k5=k1/\k6=k1)/\match op with
  |.eql=>K (.d (.sc (.bool (a == a'&&(b == b'&&c == c')))))
  |_=>False
 |_,_=>False
def dM (P:Program) (op:BinOp) (t:TypeId) (s:List Obj) (x y:V) (K:V->Prop):Prop :=
 match x,y with
 |.d (.sc (.int k a)),.d (.sc (.int k' b))=>k=k'/\fy op k a b K
 |.d (.sc (.bool a)),.d (.sc (.bool b))=>P.underlying t=some .bool/\match op with
  |.eql=>K (.d (.sc (.bool (a == b))))
  |.neq=>K (.d (.sc (.bool (!(a == b)))))
  |_=>False
 |.d (.sc (.pointer none)),.d (.sc (.pointer none))=>(∃e,P.underlying t=some (.pointer e))/\match op with
  |.eql=>K (.d (.sc (.bool true)))
  |.neq=>K (.d (.sc (.bool false)))
  |_=>False
 |.ag xs,.ag ys=>jU P op t xs ys K
 |p,.d (.sc (.pointer none))=>qs s p/\(∃e,P.underlying t=some (.pointer e))/\match op with
  |.eql=>K (.d (.sc (.bool false)))
  |.neq=>K (.d (.sc (.bool true)))
  |_=>False
 |_,_=>False
def Tb:Operand->Bool
 |.const (.slice none 0 0)=>true
 |_=>false
def eJ (P:Program) (op:BinOp) (t:TypeId) (s:List Obj) (x:V) (K:V->Prop):Prop :=
 (∃e,P.underlying t=some (.slice e))/\op=.eql/\match x with
  |.d (.sl [])=>K (.d .ub)
  |.d (.sl (_::_))=>K (.d (.sc (.bool false)))
  |.fu []=>K (.d .ub)
  |.fu (_::_)=>K (.d (.sc (.bool false)))
  |.so id g _ 0=>wq s id g λ_=>K (.d .ub)
  |.so id g _ (_+1)=>wq s id g λ_=>K (.d (.sc (.bool false)))
  |_=>False
theorem N3{p:V} (hp:aD σ s w p u) (h:qs s p):∃a,u=.pointer (some a):=by
 unfold qs at h;split at h
 ·cases hp with|d hx=>?_
  cases hx with|el _ a _ _ _ _=>exact⟨a,rfl⟩
 ·obtain⟨o,ho,hg,_⟩:=eT h;obtain⟨b,base,_,_,rfl⟩:=Ow hp ho hg;exact⟨_,rfl⟩
 ·exact⟨_,hp.DG⟩
 ·exact h.elim
theorem run_equal_bool (hu:P.underlying t=some .bool) (a b:Bool) (w:World):(Op.equal t (.bool a) (.bool b)).run P w=.ok (a == b) w:=by
 have h:∀d:Nat,(Op.equalIn (d+1) t (.bool a) (.bool b)).run P w=.ok (a == b) w:=λd=>by simp [Op.equalIn,run_underlying hu]
 exact h 9999
theorem Gq (hu:P.underlying t=some (.pointer e)) (w:World):(Op.equal t (.pointer none) (.pointer none)).run P w=.ok true w:=by
 have h:∀d:Nat,(Op.equalIn (d+1) t (.pointer none) (.pointer none)).run P w=.ok true w:=λd=>by simp [Op.equalIn,run_underlying hu]
 exact h 9999
theorem F8 (hu:P.underlying t=some (.pointer e)) (a:Addr) (w:World):(Op.equal t (.pointer (some a)) (.pointer none)).run P w=.ok false w:=by
 have h:∀d:Nat,(Op.equalIn (d+1) t (.pointer (some a)) (.pointer none)).run P w=.ok false w:=λd=>by simp [Op.equalIn,run_underlying hu]
 exact h 9999
theorem yR (hu:P.underlying t=some .bool) (a b:Bool) (w:World) (xo yo:Operand) :
  (do eqGuard .eql t xo yo (.bool a) (.bool b);binOp .eql t (.bool a) (.bool b):Sem Value).run P w=.ok (.bool (a == b)) w /\
  (do eqGuard .neq t xo yo (.bool a) (.bool b);binOp .neq t (.bool a) (.bool b):Sem Value).run P w=.ok (.bool (!(a == b))) w:=by
 have h:=run_equal_bool hu a b w;exact Zcz
theorem BV (hu:P.underlying t=some (.pointer e)) (w:World) (xo yo:Operand) :
  (do eqGuard .eql t xo yo (.pointer none) (.pointer none);binOp .eql t (.pointer none) (.pointer none):Sem Value).run P w=.ok (.bool true) w /\
  (do eqGuard .neq t xo yo (.pointer none) (.pointer none);binOp .neq t (.pointer none) (.pointer none):Sem Value).run P w=.ok (.bool false) w:=by
 have h:=Gq hu w;exact Zcz
theorem BE (hu:P.underlying t=some (.pointer e)) (a:Addr) (w:World) (xo yo:Operand) :
  (do eqGuard .eql t xo yo (.pointer (some a)) (.pointer none);binOp .eql t (.pointer (some a)) (.pointer none):Sem Value).run P w=.ok (.bool false) w /\
  (do eqGuard .neq t xo yo (.pointer (some a)) (.pointer none);binOp .neq t (.pointer (some a)) (.pointer none):Sem Value).run P w=.ok (.bool true) w:=by
 have h:=F8 hu a w;constructor <;> simp only[eqGuard,binOp,Sem.run_bind,Sem.run_pure,h,Result.andThen_ok,alh,alk,if_false,ali]
theorem Cw (hu:P.underlying t=some (.slice e)) (a:Option Addr) (n c:Nat) (w:World):(Op.equal t (.slice a n c) (.slice none 0 0)).run P w=.ok a.isNone w:=by
 have h:∀d:Nat,(Op.equalIn (d+1) t (.slice a n c) (.slice none 0 0)).run P w=.ok a.isNone w:=λd=>by cases a <;> simp [Op.equalIn,run_underlying hu]
 exact h 9999
theorem fT (hu:P.underlying t=some (.slice e)) (a:Option Addr) (n c:Nat) (w:World) (xo yo:Operand) :
  (do eqGuard .eql t xo yo (.slice a n c) (.slice none 0 0);binOp .eql t (.slice a n c) (.slice none 0 0):Sem Value).run P w=.ok (.bool a.isNone) w:=by
 have h:=Cw hu a n c w;simp only[eqGuard,binOp,Sem.run_bind,Sem.run_pure,h,Result.andThen_ok,alh,alk,if_false]
theorem MG{op:BinOp}{xo yo:Operand} (hx:aD σ s w x ux) (h:eJ P op t s x K) :
  ∃v c,(do eqGuard op t xo yo ux (.slice none 0 0);binOp op t ux (.slice none 0 0):Sem Value).run P w=.ok c w/\aD σ s w v c/\K v:=by
 obtain⟨⟨e,hu⟩,rfl,h⟩:=h;split at h
 ·cases hx with|d hx=>?_
  cases hx with
  |nil=>exact⟨_,_,fT hu _ _ _ w xo yo,.d (.ub _),h⟩
  |sl _ a cap sz f h1 h2 h3 h4 h5=>exact⟨_,_,fT hu _ _ _ w xo yo,.d (.ub _),h⟩
 ·cases hx with|d hx=>?_
  exact ZcC
 ·cases hx with|fu hx=>?_
  exact⟨_,_,fT hu _ _ _ w xo yo,.d (.ub _),h⟩
 ·cases hx with|fu hx=>?_
  exact ZcC
 ·obtain⟨o,ho,hg,hK⟩:=eT h;cases hx with|so o' jb D4 Sn hk=>?_
  rw[ho]at jb;cases jb;rcases hk hg with ⟨_,⟨a,rfl⟩,_,_⟩|⟨b,bs,cp,E,arr,_,_,rfl,_⟩
  ·exact⟨_,_,fT hu _ _ _ w xo yo,.d (.ub _),hK⟩
  ·exact⟨_,_,fT hu _ _ _ w xo yo,.d (.ub _),hK⟩
 ·obtain⟨o,ho,hg,hK⟩:=eT h;cases hx with|so o' jb D4 Sn hk=>?_
  rw[ho]at jb;cases jb;rcases hk hg with ⟨_,_,_,h0⟩|⟨b,bs,cp,E,arr,_,_,rfl,_⟩
  ·omega
  ·exact⟨_,_,fT hu _ _ _ w xo yo,.d (.sc _ rfl),hK⟩
 ·exact h.elim
theorem G9{n:Nat} (h:jg P t=some (n,k)):∃e i,P.underlying t=some (.array n e)/\P.underlying e=some (.int k)/\P.info? e=some i/\P.cellsOf e=1/\P.eqGuardType P.depth t=false:=by
 unfold jg at h;split at h
 ·rename_i n' e hu;split at h
  ·rename_i k' hk;split at h
   ·rename_i hc;cases h;obtain⟨i,hi⟩:=Option.isSome_iff_exists.1 hc.1;exact⟨e,i,hu,hk,hi,hc.2.1,hc.2.2⟩
   ·cases h
  ·cases h
 ·cases h
theorem Ga (ha:jg P t=some (2,k)) (a b c d:Int) (w:World) :
  (Op.equal t (.agg #[.int k a,.int k b]) (.agg #[.int k c,.int k d])).run P w=.ok (a == c&&b == d) w:=by
 obtain⟨e,i,h1,h2,h3,h4,_⟩:=G9 ha;have h:∀n:Nat,(Op.equalIn (n+2) t (.agg #[.int k a,.int k b]) (.agg #[.int k c,.int k d])).run P w=.ok (a == c&&b == d) w:=by
  intro n;rw[run_equalIn_array w (n+1) _ _ h1 h3,h4];have hi:∀(x y:Int),(Op.equalIn (n+1) e (.int k x) (.int k y)).run P w=.ok (x == y) w:=λx y=>by simp [Op.equalIn,run_underlying h2]
  have hp:∀(xs:Array Value) (j:Nat) (v:Value),xs[j]?=some v->(part e xs j).run P w=.ok v w:=λxs j v hv=>by simp [part,isAgg,run_underlying h2,hv]
  have r2:List.range 2=[0,1]:=rfl;rw[r2];have p0:=hp #[.int k a,.int k b] 0 (.int k a) rfl;have p1:=hp #[.int k a,.int k b] 1 (.int k b) rfl;have q0:=hp #[.int k c,.int k d] 0 (.int k c) rfl;have q1:=hp #[.int k c,.int k d] 1 (.int k d) rfl;simp only[Op.eqItems,Sem.run_bind,Nat.zero_mul,Nat.one_mul,p0,q0,hi,Result.andThen_ok];cases Sb:(a == c)
  ·simp
  ·simp only[alh,alk,if_false,Sem.run_bind,p1,q1,hi,Result.andThen_ok];cases hbd:(b == d) <;> simp
 exact h 9998
theorem Ip (h:Xh P t=some k):∃fields a b c,P.underlying t=some (.struct fields)/\fields.toList=[a,b,c]/\P.underlying a.type=some (.int k)/\P.underlying b.type=some (.int k)/\P.underlying c.type=some (.int k) /\
  (a.offset = 0 ∧ b.offset = 1 ∧ c.offset = 2) ∧ (a.name ≠ "_" ∧ b.name ≠ "_" ∧ c.name ≠ "_") ∧ P.stoodInHeld t = false ∧ P.eqGuardType P.depth t = false := by
 unfold Xh at h;split at h
 ·rename_i fields hu;split at h
  ·rename_i a b c hl;split at h
   ·rename_i k1 k2 k3 ha hb hc;split at h
    ·rename_i hh;cases h;obtain⟨⟨rfl,rfl,o⟩,n,s1,s2⟩:=hh;exact⟨fields,a,b,c,hu,hl,ha,hb,hc,o,n,s1,s2⟩
    ·cases h
   ·cases h
  ·cases h
 ·cases h
theorem Gg (ht:Xh P t=some k) (a b c a' b' c':Int) (w:World) :
  (Op.equal t (.agg #[.int k a,.int k b,.int k c]) (.agg #[.int k a',.int k b',.int k c'])).run P w=.ok (a == a'&&(b == b'&&c == c')) w:=by
 obtain⟨fields,fa,fb,fc,h1,h2,h3,h4,h5,⟨o1,o2,o3⟩,⟨n1,n2,n3⟩,s1,_⟩:=Ip ht;have hf:fields=#[fa,fb,fc]:=by rw[<- h2]
 have h:∀n:Nat,(Op.equalIn (n+2) t (.agg #[.int k a,.int k b,.int k c]) (.agg #[.int k a',.int k b',.int k c'])).run P w=.ok (a == a'&&(b == b'&&c == c')) w:=by
  intro n;have hi:∀(e:TypeId) (x y:Int),P.underlying e=some (.int k)->(Op.equalIn (n+1) e (.int k x) (.int k y)).run P w=.ok (x == y) w:=λe x y he=>by simp [Op.equalIn,run_underlying he]
  have hp:∀(e:TypeId) (xs:Array Value) (j:Nat) (v:Value),P.underlying e=some (.int k)->xs[j]?=some v->(part e xs j).run P w=.ok v w:=λe xs j v he hv=>by simp [part,isAgg,run_underlying he,hv]
  have p0:=hp fa.type #[.int k a,.int k b,.int k c] 0 (.int k a) h3 rfl;have p1:=hp fb.type #[.int k a,.int k b,.int k c] 1 (.int k b) h4 rfl;have p2:=hp fc.type #[.int k a,.int k b,.int k c] 2 (.int k c) h5 rfl;have q0:=hp fa.type #[.int k a',.int k b',.int k c'] 0 (.int k a') h3 rfl;have q1:=hp fb.type #[.int k a',.int k b',.int k c'] 1 (.int k b') h4 rfl;have q2:=hp fc.type #[.int k a',.int k b',.int k c'] 2 (.int k c') h5 rfl;have e0:=hi fa.type a a' h3;have e1:=hi fb.type b b' h4;have e2:=hi fc.type c c' h5;rw[show n+2=(n+1)+1 from rfl,Op.equalIn];subst hf;generalize (a == a')=r0 at e0 ⊢;generalize (b == b')=r1 at e1 ⊢;generalize (c == c')=r2 at e2 ⊢;simp [run_underlying h1,Sem.run_bind,s1,n1,n2,n3,o1,o2,o3,p0,p1,p2,q0,q1,q2,e0,e1,e2];cases r0 <;> cases r1 <;> cases r2 <;> simp
 exact h 9998
theorem RY{op:BinOp}{t:TypeId}{xo yo:Operand}{xs ys:List V}{ux uy:Value} (hx:aD σ s w (.ag xs) ux) (hy:aD σ s w (.ag ys) uy) (h:jU P op t xs ys K) :
  ∃v c,(do eqGuard op t xo yo ux uy;binOp op t ux uy:Sem Value).run P w=.ok c w/\aD σ s w v c/\K v:=by
 unfold jU at h;split at h
 ·rename_i k1 a k2 b k3 c k4 d;obtain⟨⟨ha,rfl,rfl,rfl⟩,h⟩:=h;have two:∀{k:IntKind}{a b:Int}{u:Value},aD σ s w (.ag [.d (.sc (.int k a)),.d (.sc (.int k b))]) u->u=.agg #[.int k a,.int k b]:=by
   intro k a b u hu;cases hu with|ag h1 h2 h3=>?_
   rename_i arr;have e0:=h3 0 _ rfl;have e1:=h3 1 _ rfl;generalize hv0:arr.getD 0 undef=v0 at e0;generalize hv1:arr.getD 1 undef=v1 at e1;cases e0 with|d e0=>?_
   cases e0 with|sc _ _=>?_
   cases e1 with|d e1=>?_
   cases e1 with|sc _ _=>?_
   congr 1;have gr:arr.size=2:=h1;apply Array.ext
   ·rw[gr];rfl
   ·intro i ic hi2;have hi:i=0\/i=1:=ae;rcases hi with rfl|rfl
    ·exact ZcV
    ·exact ZcW
  rw[two hx,two hy];obtain⟨e,i,h1,h2,h3,h4,h5⟩:=G9 ha;have hr:=Ga ha a b c d w;split at h
  ·exact ZbH
  ·exact ZbH
  ·exact h.elim
 ·rename_i k1 a k2 b k3 c k4 a' k5 b' k6 c';obtain⟨⟨ht,rfl,rfl,rfl,rfl,rfl⟩,h⟩:=h;have three:∀{k:IntKind}{a b c:Int}{u:Value},aD σ s w (.ag [.d (.sc (.int k a)),.d (.sc (.int k b)),.d (.sc (.int k c))]) u->u=.agg #[.int k a,.int k b,.int k c]:=by
   intro k a b c u hu;cases hu with|ag h1 h2 h3=>?_
   rename_i arr;have e0:=h3 0 _ rfl;have e1:=h3 1 _ rfl;have e2:=h3 2 _ rfl;generalize hv0:arr.getD 0 undef=v0 at e0;generalize hv1:arr.getD 1 undef=v1 at e1;generalize hv2:arr.getD 2 undef=v2 at e2;cases e0 with|d e0=>?_
   cases e0 with|sc _ _=>?_
   cases e1 with|d e1=>?_
   cases e1 with|sc _ _=>?_
   cases e2 with|d e2=>?_
   cases e2 with|sc _ _=>?_
   congr 1;have gr:arr.size=3:=h1;apply Array.ext
   ·rw[gr];rfl
   ·intro i ic hi2;have hi:i=0\/i=1\/i=2:=ae;rcases hi with rfl|rfl|rfl
    ·exact ZcV
    ·exact ZcW
    ·have:arr[2]=arr.getD 2 undef:=by simp [Array.getD,gr]
     rw[this,hv2];rfl
  rw[three hx,three hy];obtain⟨_,_,_,_,_,_,_,_,_,_,_,_,h5⟩:=Ip ht;have hr:=Gg ht a b c a' b' c' w;split at h
  ·exact ZbH
  ·exact h.elim
 ·exact h.elim
theorem NL{op:BinOp}{t:TypeId}{xo yo:Operand}{y:V}{ux uy:Value} (hx:aD σ s w x ux) (hy:aD σ s w y uy) (h:dM P op t s x y K) :
  ∃v c,(do eqGuard op t xo yo ux uy;binOp op t ux uy:Sem Value).run P w=.ok c w/\aD σ s w v c/\K v:=by
 have bl:∀(b:Bool),K (.d (.sc (.bool b)))->(do eqGuard op t xo yo ux uy;binOp op t ux uy:Sem Value).run P w=.ok (.bool b) w ->
   ∃v c,(do eqGuard op t xo yo ux uy;binOp op t ux uy:Sem Value).run P w=.ok c w/\aD σ s w v c/\K v:=λb hk hr=>⟨_,_,hr,.d (.sc _ rfl),hk⟩
 unfold dM at h;split at h
 ·rename_i k a k' b;obtain⟨rfl,h⟩:=h;cases hx with|d hx=>?_
  cases hx with|sc _ _=>?_
  cases hy with|d hy=>?_
  cases hy with|sc _ _=>?_
  have it:∀(n:Int),K (.d (.sc (.int k n)))->(do eqGuard op t xo yo (.int k a) (.int k b);binOp op t (.int k a) (.int k b):Sem Value).run P w=.ok (.int k n) w ->
   ∃v c,(do eqGuard op t xo yo (.int k a) (.int k b);binOp op t (.int k a) (.int k b):Sem Value).run P w=.ok c w/\aD σ s w v c/\K v:=λn hk hr=>⟨_,_,hr,.d (.sc _ rfl),hk⟩
  cases op <;> simp only[fy]at h
  case add=>exact it _ h (by simp [eqGuard,binOp,Op.intArith])
  case sub=>exact it _ h (by simp [eqGuard,binOp,Op.intArith])
  case mul=>exact it _ h (by simp [eqGuard,binOp,Op.intArith])
  case quo=>exact it _ h.2 (by simp [eqGuard,binOp,Op.intDiv,h.1])
  case rem=>exact it _ h.2 (by simp [eqGuard,binOp,Op.intDiv,h.1])
  case and=>exact it _ h (by simp [eqGuard,binOp,Op.intBits,jf])
  case or=>exact it _ h (by simp [eqGuard,binOp,Op.intBits,jf])
  case xor=>exact it _ h (by simp [eqGuard,binOp,Op.intBits,jf])
  case eql=>exact bl _ h (by simp [eqGuard,binOp,Op.intCmp];rfl)
  case neq=>exact bl _ h (by simp [eqGuard,binOp,Op.intCmp];rfl)
  case lss=>exact bl _ h (by simp [eqGuard,binOp,Op.intCmp])
  case leq=>exact bl _ h (by simp [eqGuard,binOp,Op.intCmp])
  case gtr=>exact bl _ h (by simp [eqGuard,binOp,Op.intCmp])
  case geq=>exact bl _ h (by simp [eqGuard,binOp,Op.intCmp])
 ·rename_i a b;obtain⟨hu,h⟩:=h;cases hx with|d hx=>?_
  cases hx with|sc _ _=>?_
  cases hy with|d hy=>?_
  cases hy with|sc _ _=>?_
  split at h
  ·exact bl _ h (yR hu a b w xo yo).1
  ·exact bl _ h (yR hu a b w xo yo).2
  ·exact h.elim
 ·obtain⟨⟨e,hu⟩,h⟩:=h;cases hx with|d hx=>?_
  cases hx with|sc _ _=>?_
  cases hy with|d hy=>?_
  cases hy with|sc _ _=>?_
  split at h
  ·exact bl _ h (BV hu w xo yo).1
  ·exact bl _ h (BV hu w xo yo).2
  ·exact h.elim
 ·exact RY hx hy h
 ·obtain⟨hp,⟨e,hu⟩,h⟩:=h;obtain⟨ad,rfl⟩:=N3 hx hp;cases hy with|d hy=>?_
  cases hy with|sc _ _=>?_
  split at h
  ·exact bl _ h (BE hu ad w xo yo).1
  ·exact bl _ h (BE hu ad w xo yo).2
  ·exact h.elim
 ·exact h.elim
def qj:BinOp->Bool
 |.shl=>true
 |.shr=>true
 |_=>false
def shV (op:BinOp) (k:IntKind) (a b:Int):Int :=
 match op with
 |.shl=>k.wrap (a*2 ^ min b.toNat k.bits)
 |_=>a.fdiv (2 ^ min b.toNat k.bits)
def tj (op:BinOp) (x y:V) (K:V->Prop):Prop :=
 match x,y with
 |.d (.sc (.int k a)),.d (.sc (.int _ b))=>0<=b/\K (.d (.sc (.int k (shV op k a b))))
 |_,_=>False
def qR (P:Program) (op:BinOp) (t:TypeId) (s:List Obj) (x y:V) (K:V->Prop):Prop :=
 match qj op with
 |true=>tj op x y K
 |false=>dM P op t s x y K
theorem R9{op:BinOp}{t:TypeId}{xo yo:Operand}{y:V}{ux uy:Value} (hx:aD σ s w x ux) (hy:aD σ s w y uy) (h:qR P op t s x y K) :
  ∃v c,(do eqGuard op t xo yo ux uy;binOp op t ux uy:Sem Value).run P w=.ok c w/\aD σ s w v c/\K v:=by
 unfold qR at h;split at h
 ·rename_i hs;unfold tj at h;split at h
  ·rename_i k a k' b;obtain⟨hb,h⟩:=h;cases hx with|d hx=>?_
   cases hx with|sc _ _=>?_
   cases hy with|d hy=>?_
   cases hy with|sc _ _=>?_
   have St:¬b<0:=ae;cases op <;> simp only[qj,alk]at hs
   ·exact Zdg
   ·exact Zdg
  ·exact h.elim
 ·exact NL hx hy h
def CF (op:UnOp) (x:V) (K:V->Prop):Prop :=
 match op,x with
 |.neg,.d (.sc (.int k n))=>K (.d (.sc (.int k (k.wrap (0-n)))))
 |.not,.d (.sc (.bool b))=>K (.d (.sc (.bool !b)))
 |_,_=>False
theorem Uf{op:UnOp} (hx:aD σ s w x ux) (h:CF op x K) :
  ∃v c,(Op.unary op ux).run P w=.ok c w/\aD σ s w v c/\K v:=by
 unfold CF at h;split at h
 ·cases hx with|d hx=>?_
  cases hx with|sc _ _=>?_
  exact⟨_,_,by simp [Op.unary,Op.intArith],.d (.sc _ rfl),h⟩
 ·cases hx with|d hx=>?_
  cases hx with|sc _ _=>?_
  exact⟨_,_,by simp [Op.unary],.d (.sc _ rfl),h⟩
 ·exact h.elim
def qV (P:Program) (src dst:TypeId) (x:V) (K:V->Prop):Prop :=
 match x with
 |.d (.sc (.int _ n))=>match P.underlying src,P.underlying dst with
  |some (.int _),some (.int k)=>K (.d (.sc (.int k (k.wrap n))))
  |_,_=>False
 |_=>False
theorem NQ{src dst:TypeId} (hx:aD σ s w x ux) (h:qV P src dst x K) :
  ∃v c,(convert src dst ux).run P w=.ok c w/\aD σ s w v c/\K v:=by
 unfold qV at h;split at h
 case h_2=>exact h.elim
 cases hx with|d hx=>?_
 cases hx with|sc _ _=>?_
 split at h
 case h_2=>exact h.elim
 rename_i h1 h2;exact⟨_,_,by simp [convert,run_underlying h1,run_underlying h2,Conv.intToInt],.d (.sc _ rfl),h⟩
def fG (mn:Bool) (acc:V):List V->(V->Prop)->Prop
 |[],K=>K acc
 |y::rest,K=>match acc,y with
  |.d (.sc (.int k a)),.d (.sc (.int _ b))=>fG mn (.d (.sc (.int k (if mn then min a b else max a b)))) rest K
  |_,_=>False
theorem sZ {P:Program}{mn:Bool}{σ:Gh}{s:List Obj}{w:World}:∀(ys:List V) (us:List Value) (acc:V) (c:Value) (K:V->Prop),aD σ s w acc c->us.length=ys.length ->
  (∀(i:Nat) (y:V),ys[i]?=some y->∃u,us[i]?=some u/\aD σ s w y u)->fG mn acc ys K ->
  ∃v r,(us.foldlM (if mn then Builtin.min2 else Builtin.max2) c).run P w=.ok r w/\aD σ s w v r/\K v
 |[],[],acc,c,K,hr,_,_,h=>⟨acc,c,aq,hr,h⟩
 |[],_::_,_,_,_,_,hl,_,_=>by simp at hl
 |_::_,[],_,_,_,_,hl,_,_=>by simp at hl
 |y::ys,u::us,acc,c,K,hr,hl,hy,h=>by
  obtain⟨u',hu,wK⟩:=hy 0 y rfl;simp only[List.getElem?_cons_zero,alb]at hu;subst hu;unfold fG at h;split at h
  ·cases hr with|d hr=>?_
   cases hr with|sc _ _=>?_
   cases wK with|d wK=>?_
   cases wK with|sc _ _=>?_
   rename_i k a k' b _ _;obtain⟨v,r,h1,h2,h3⟩:=sZ (P:=P) (mn:=mn) ys us _ (.int k (if mn then min a b else max a b)) K (.d (.sc _ rfl)) (by simpa using hl) (λi z hz=>hy (i+1) z (by simpa using hz)) h;refine⟨v,r,?_,h2,h3⟩;rw[List.foldlM_cons];cases mn
   ·have:(if b>a then b else a)=max a b:=by omega
    simp only[alk,if_false]at h1 ⊢;simp [Builtin.max2,this,h1]
   ·have:(if b<a then b else a)=min a b:=by omega
    simp only[if_true]at h1 ⊢;simp [Builtin.min2,this,h1]
  ·exact h.elim
def Mu (e0:V) (b a:Nat):V :=
 match e0 with
 |.pp id g i off b' a'=>if b'=b/\a'=a then .pp id g i off b' a' else .d (.sc (.pointer (some ⟨b,a,none⟩)))
 |_=>.d (.sc (.pointer (some ⟨b,a,none⟩)))
def dY (e0:V):D->V
 |.sc (.pointer (some ⟨b,a,none⟩))=>Mu e0 b a
 |.el [x]=>.bx (dY e0 x)
 |.cl fn first aj=>.cl fn (go first) (go aj)
 |x=>.d x
where go:List D->List V
 |[]=>[]
 |x::l=>dY e0 x::go l
theorem LH (e0:V):∀l:List D,dY.go e0 l=l.map (dY e0)
 |[]=>rfl
 |x::l=>by simp [dY.go,LH e0 l]
theorem Nw (h0:aD σ s w e0 u0) {x:D} (hr:di (Own σ s) w x u):aD σ s w (dY e0 x) u:=by
 have g:∀(l:List D) (i:Nat) (y:V),(l.map (dY e0))[i]?=some y->∃x,l[i]?=some x/\dY e0 x=y:=λl i y hy=>by rw[List.getElem?_map]at hy;exact Option.map_eq_some_iff.1 hy
 induction hr with
 |sc v hv =>
  have hd:aD σ s w (.d (.sc v)) v:=.d (.sc v hv);unfold dY;split
  ·rename_i b a hx;cases hx;unfold Mu;split
   ·split
    ·rename_i hc;obtain⟨rfl,rfl⟩:=hc;have:=h0.DG;subst this;exact h0
    ·exact hd
   ·exact hd
  ·rename_i hx;cases hx
  ·rename_i hx;cases hx
  ·exact hd
 |nil=>exact .d .nil
 |sl aA a cap sz f h1 h2 h3 h4 h5 _=>exact .d (.sl aA a cap sz f h1 h2 h3 h4 h5)
 |el cs a f h1 h2 h3 ih =>
  match cs,h2,h3,ih with
  |[],h2,h3,_=>exact .d (.el [] a f h1 h2 h3)
  |[x],h2,h3,ih =>
   simp only[dY];exact .bx h1 (h2 0 x rfl).1 (h2 0 x rfl).2 (h3 0 x rfl).one (ih 0 x rfl)
  |x::y::l,h2,h3,_=>exact .d (.el (x::y::l) a f h1 h2 h3)
 |cl h1 _ h3 _ As mN =>
  simp only[dY,LH];exact ZaF
 |ub b=>exact .d (.ub b)
def Gl (e0 x:V):V :=
 match x with
 |.d (.cl fn first aj)=>dY e0 (.cl fn first aj)
 |.d (.sc (.func fn ⟨[]⟩ ⟨[]⟩))=>.cl fn [] []
 |x=>x
theorem QH (h0:aD σ s w e0 u0) (hx:aD σ s w x u):aD σ s w (Gl e0 x) u:=by
 unfold Gl;split
 ·cases hx with|d hx=>exact Nw h0 hx
 ·cases hx with
  |d hx =>
   cases hx with
   |sc _ _=>exact .cl rfl (λi x hx=>by simp at hx) rfl (λi x hx=>by simp at hx)
 ·exact hx
def MJ (P:Program) (f:FuncId):Bool :=
 match P.funcs[f]? with
 | some fn => fn.name != "runtime.NumGoroutine" && fn.body.isSome
 |none=>false
def av (P:Program) (f:FuncId) (args:List V) (s:List Obj) (K:V->List Obj->Prop):Prop :=
 MJ P f=true/\∀(σ:Gh) (w:World) (vals:Array Value),Inv σ s w->vals.size=args.length->(∀(i:Nat) (x:V),args[i]?=some x->aD σ s w x (vals.getD i undef)) ->
  Calls P f vals w λe w'=>∃u v σ' s',e=.returned u/\aK σ s w σ' s' w'/\Inv σ' s' w'/\aD σ' s' w' v u/\K v s'
theorem IT (h:MJ P f=true) (args:Array Value) (w:World):(callFunc f args).run P w=.ok (.enter f args) w:=by
 unfold MJ at h;split at h
 ·rename_i fn hf;simp only[alo,bne_iff_ne,ne_eq]at h;obtain⟨h1,h2⟩:=h;cases hb:fn.body with
  |none=>rw[hb]at h2;cases h2
  |some c=>simp [callFunc,hf,h1,hb]
 ·cases h
def iB (P:Program) (c:Call) (e:Nat->V) (s:List Obj) (K:V->List Obj->Prop):Prop :=
 match c.callee with
 |.value (.func f)=>av P f (c.args.toList.map (ev e)) s K
 |.value f=>match Gl (e 0) (ev e f) with
  |.cl (.func g) first aj=>av P g (first++c.args.toList.map (ev e)++aj) s K
  |_=>False
 |.builtin b=>match b,c.args.toList,c.argTypes.toList with
  |.len,[x],[t]=>mj P t (ev e x) s λv=>K v s
  |.append,[a,x],[t,t']=>if t=t' then dN P t (ev e a) (ev e x) s K else lr P t t' (ev e a) (ev e x) s K
  |.copy,[a,x],[t,t']=>t=t'/\xN P t (ev e a) (ev e x) s K
  |.clear,[x],[t]=>lW P t (ev e x) s K
  |.min,x::rest,_=>fG true (ev e x) (rest.map (ev e)) λv=>K v s
  |.max,x::rest,_=>fG false (ev e x) (rest.map (ev e)) λv=>K v s
  |.cap,[x],[t]=>MH P t (ev e x) λv=>K v s
  |_,_,_=>False
 |_=>False
def kg (s:List Obj) (x:V) (K:V->Prop):Prop :=
 match x with
 |.d (.el cs)=>K (.d (.el cs))
 |.rf id g i off=>wq s id g λ_=>K (.rf id g i off)
 |.pp id g i off b a=>wq s id g λ_=>K (.pp id g i off b a)
 |.d (.sc (.pointer (some ad)))=>K (.d (.sc (.pointer (some ad))))
 |.cl (.func f) first aj=>K (.cl (.func f) first aj)
 |_=>False
def Ek (e0:V) (b a:Nat):V :=
 match e0 with
 |.pp id g i off b' a'=>if b'=b/\a'<=a then .rf id g i (off+(a-a')) else .d (.sc (.pointer (some ⟨b,a,none⟩)))
 |_=>.d (.sc (.pointer (some ⟨b,a,none⟩)))
def xw (e0 p:V):V :=
 match p with
 |.d (.sc (.pointer (some ⟨b,a,none⟩)))=>Ek e0 b a
 |p=>p
theorem Ox{p:V} (h0:aD σ s w e0 u0) (hp:aD σ s w p u):aD σ s w (xw e0 p) u:=by
 unfold xw;split
 ·rename_i b a;unfold Ek;split
  ·split
   ·rename_i id g i off b' a' hc;obtain⟨rfl,hle⟩:=hc;cases hp with|d hp=>?_
    cases hp with|sc _ _=>?_
    cases h0 with
    |pp o ho hg hk =>
     refine .rf o ho hg rfl λhe=>?_;obtain⟨base,k1,k2,k3⟩:=hk he;exact⟨b',base,k1,k2,by congr 3;omega⟩
   ·exact hp
  ·exact hp
 ·exact hp
def iH (x:V) (A B:Prop):Prop :=
 match x with
 |.d (.sc (.bool b))=>(b=true->A)/\(b=false->B)
 |_=>False
def zC (x:V) (i:Nat) (K:V->Prop):Prop :=
 match x with
 |.tu vs=>match vs[i]? with
  |some v=>K v
  |none=>False
 |_=>False
def du (P:Program) (o:Oper) (e:Nat->V) (s:List Obj) (K:V->List Obj->Prop):Prop :=
 match o.op with
 |.move x=>K (ev e x) s
 |.assign x=>K (ev e x) s
 |.pick c a b=>iH (ev e c) (K (ev e a) s) (K (ev e b) s)
 |.alloc t=>qJ P t s K
 |.box _ x=>B9 s (ev e x) K
 |.build t parts=>qK P t (parts.toList.map λp=>(p.1,ev e p.2)) λv=>K v s
 |.buildSlice t n parts=>fh P t n (parts.toList.map λp=>(p.1,ev e p.2)) s K
 |.load t a=>mA P t s (xw (e 0) (ev e a)) λv=>K v s
 |.store t a x=>iU P t s (ev e a) (ev e x) λs'=>K .un s'
 |.nilCheck x=>kg s (ev e x) λv=>K v s
 |.binOp op t x y _=>bif Tb y then eJ P op t s (ev e x) (λv=>K v s) else qR P op t s (ev e x) (ev e y) λv=>K v s
 |.unOp op _ x=>CF op (ev e x) λv=>K v s
 |.convert src dst x=>qV P src dst (ev e x) λv=>K v s
 |.makeFunc fn first aj=>K (.cl fn (first.toList.map (ev e)) (aj.toList.map (ev e))) s
 |.makeSlice t l c=>gR P t (ev e l) (ev e c) s K
 |.slice t x lo hi mx=>lX P t (ev e x) (lo.map (ev e)) (hi.map (ev e)) (mx.map (ev e)) s λv=>K v s
 |.fieldAddr t x f=>fm P t s (ev e x) f λv=>K v s
 |.field t x f=>nJ P t (ev e x) f λv=>K v s
 |.indexAddr t x i=>dZ P t s (ev e x) (ev e i) λv=>K v s
 |.index t x i=>kP P t (ev e x) (ev e i) λv=>K v s
 |.extract x i=>zC (ev e x) i λv=>K v s
 |.call c=>iB P c e s K
 |.makeMap t r=>oR P t r s K
 |.lookup t x i ok=>bif ok then False else jP P t s (ev e x) (ev e i) λv=>K v s
 |.mapUpdate t m k x=>xC P t s (ev e m) (ev e k) (ev e x) λs'=>K .un s'
 |.insert t m k x=>xC P t s (ev e m) (ev e k) (ev e x) λs'=>K .un s'
 |_=>False
def eE (σ:Gh) (s:List Obj) (w:World) (N:Nat) (e:Nat->V) (a:Act):Prop :=
 a.defers=[]/\a.tmps.size=N/\∀t,aD σ s w (e t) (a.tmps.getD t undef)
theorem eE.ev {σ s w N e a} (h:eE σ s w N e a) (x:Operand):aD σ s w (ev e x) (a.eval x):=by
 cases x with
 |tmp t=>exact h.2.2 t
 |const v=>exact Xt v
 |global g=>exact .any
 |func f=>exact .cl rfl (λi x hx=>by simp at hx) rfl (λi x hx=>by simp at hx)
def xx (P:Program) (o:Oper) (σ:Gh) (s:List Obj) (w:World) (a:Act) (K:V->List Obj->Prop):Prop :=
 o.wp P a w (λa' w'=>∃u v σ' s',a'=a.put o.dst u/\aK σ s w σ' s' w'/\Inv σ' s' w'/\aD σ' s' w' v u/\K v s') (λ_ _ _=>False)
theorem fx{K:V->List Obj->Prop}{v:V}{σ':Gh}{s':List Obj}{w':World} (hr:(execOp a.eval o).run P w=.ok (.value u) w')
  (hE:aK σ s w σ' s' w') (hI:Inv σ' s' w') (hv:aD σ' s' w' v u) (hK:K v s'):xx P o σ s w a K:=by
 unfold xx Oper.wp;rw[hr,Oper.upon_value];exact⟨u,v,σ',s',rfl,hE,hI,hv,hK⟩
theorem CN{e:Nat->V} (h:eE σ s w N e a) (l:List Operand):∀(i:Nat) (x:V),(l.map (ev e))[i]?=some x->∃u,(l.map a.eval)[i]?=some u/\aD σ s w x u:=by intro i x hx;rw[List.getElem?_map]at hx ⊢;obtain⟨y,hy,rfl⟩:=Option.map_eq_some_iff.1 hx;rw[hy];exact⟨_,rfl,h.ev y⟩
theorem H6{e:Nat->V} (h:eE σ s w N e a) (l:List (Nat×Operand)) :
  ∀(j:Nat) i x,(l.map λp=>(p.1,ev e p.2))[j]?=some (i,x)->∃u,(l.map λp=>(p.1,a.eval p.2))[j]?=some (i,u)/\aD σ s w x u:=by
 intro j i x hx;rw[List.getElem?_map]at hx ⊢;obtain⟨y,hy,h'⟩:=Option.map_eq_some_iff.1 hx;simp only[alG]at h';obtain⟨rfl,rfl⟩:=h';rw[hy];exact⟨_,rfl,h.ev y.2⟩
theorem KK{K:V->List Obj->Prop}{vals:Array Value}{args:List V} (hr:(execOp a.eval o).run P w=(callFunc f vals).run P w)
  (hI:Inv σ s w) (hl:vals.size=args.length) (hv:∀(i:Nat) (x:V),args[i]?=some x->aD σ s w x (vals.getD i undef)) (h:av P f args s K):xx P o σ s w a K:=by
 unfold xx Oper.wp;rw[hr,IT h.1,Oper.upon_enter];refine(h.2 σ w vals hI hl hv).mono λe w' ⟨u,v,σ',s',he,hE,jR,hR,hK⟩=>?_;subst he;exact⟨u,v,σ',s',rfl,hE,jR,hR,hK⟩
theorem sJ {l:List Value}{i:Nat} (h:l[i]?=some u) (d:Value):l.toArray.getD i d=u:=by have aE:=(List.getElem?_eq_some_iff.1 h).1;have:=(List.getElem?_eq_some_iff.1 h).2;simp [Array.getD,aE,this]
theorem E6{e:Nat->V}{K:V->List Obj->Prop} (hI:Inv σ s w) (hR:eE σ s w N e a) (h:du P o e s K):xx P o σ s w a K:=by
 obtain⟨dst,op,ty,pos,after,guard⟩:=o;have ro:∀{v:V}{c:Value}{s1:Sem Value},s1.run P w=.ok c w->(do pure (Next.value (<- s1)):Sem Next).run P w=.ok (.value c) w:=λh=>by simp [h]
 have r1:∀{c:Value}{w':World}{s1:Sem Value},s1.run P w=.ok c w'->(do pure (Next.value (<- s1)):Sem Next).run P w=.ok (.value c) w':=λh=>by simp [h]
 have same:∀{v:V}{c:Value},(execOp a.eval ⟨dst,op,ty,pos,after,guard⟩).run P w=.ok (.value c) w->aD σ s w v c->K v s->xx P ⟨dst,op,ty,pos,after,guard⟩ σ s w a K :=
  λhr hv hk=>fx hr (aK.refl _ _ _) hI hv hk
 cases op <;> simp only[du]at h
 case move x=>exact same (by simp [execOp]) (hR.ev x) h
 case assign x=>exact same (by simp [execOp]) (hR.ev x) h
 case pick c x y =>
  unfold iH at h;split at h
  ·rename_i b hb;have hc:=hR.ev c;rw[hb]at hc;generalize yN:a.eval c=ZL at hc;cases hc with|d hc=>?_
   cases hc with|sc _ _=>?_
   cases b
   ·exact same (c:=a.eval y) (by simp [execOp,yN,asBool]) (hR.ev y) (h.2 rfl)
   ·exact same (c:=a.eval x) (by simp [execOp,yN,asBool]) (hR.ev x) (h.1 rfl)
  ·exact h.elim
 case alloc t =>
  obtain⟨v,c,σ',s',w',k1,k2,k3,k4,k5⟩:=Mo hI h;exact ZcD
 case box t x =>
  obtain⟨v,c,σ',s',w',k1,k2,k3,k4,k5⟩:=Rq (P:=P) (t:=t) hI (hR.ev x) h;exact ZcD
 case build t parts =>
  obtain⟨v,c,k1,k2,k3⟩:=K3 aq (H6 hR parts.toList) h;refine same (c:=c) ?_ k2 k3;exact Zda
 case buildSlice t n parts =>
  obtain⟨v,c,σ',s',w',k1,k2,k3,k4,k5⟩:=A7 hI aq (H6 hR parts.toList) h;refine fx ?_ k2 k3 k4 k5;exact Zda
 case load t x =>
  obtain⟨v,c,k1,k2,k3⟩:=E4 hI (Ox (hR.2.2 0) (hR.ev x)) h;exact ZaN
 case store t x y =>
  obtain⟨s',w',k1,k2,k3,k4⟩:=Ko hI (hR.ev x) (hR.ev y) h;exact Zbg
 case nilCheck x =>
  unfold kg at h;have hx:=hR.ev x;split at h
  ·rename_i ky;rw[ky]at hx;generalize yN:a.eval x=ZL at hx;cases hx with|d hx=>?_
   cases hx with|el _ ad f h1 h2 h3=>?_
   exact same (c:=.pointer (some ad)) (by simp [execOp,yN]) (.d (.el _ ad f h1 h2 h3)) h
  ·rename_i ky;obtain⟨o,ho,hg,h⟩:=eT h;rw[ky]at hx;obtain⟨b,base,_,_,hp⟩:=Ow hx ho hg;exact same (c:=a.eval x) (by simp [execOp,hp]) hx h
  ·rename_i ky;obtain⟨o,ho,hg,h⟩:=eT h;rw[ky]at hx;have hp:=hx.DG;exact same (c:=a.eval x) (by simp [execOp,hp]) hx h
  ·rename_i ky;rw[ky]at hx;generalize yN:a.eval x=ZL at hx;cases hx with|d hx=>?_
   cases hx with|sc _ hv=>?_
   exact same (by simp [execOp,yN]) (.d (.sc _ hv)) h
  ·rename_i ky;rw[ky]at hx;generalize yN:a.eval x=ZL at hx;cases hx with|cl h1 h2 h3 h4=>?_
   exact same (c:=.func _ _ _) (by simp [execOp,yN]) (.cl h1 h2 h3 h4) h
  ·exact h.elim
 case binOp op t x y yt =>
  cases hn:Tb y with
  |true =>
   simp only[hn,cond_true]at h;have hy:y=.const (.slice none 0 0):=by
    unfold Tb at hn;split at hn
    ·rfl
    ·cases hn
   subst hy;obtain⟨v,c,k1,k2,k3⟩:=MG (xo:=x) (yo:=.const (.slice none 0 0)) (hR.ev x) h;exact ZaN
  |false =>
   simp only[hn,cond_false]at h;obtain⟨v,c,k1,k2,k3⟩:=R9 (xo:=x) (yo:=y) (hR.ev x) (hR.ev y) h;exact ZaN
 case unOp op t x =>
  obtain⟨v,c,k1,k2,k3⟩:=Uf (P:=P) (hR.ev x) h;exact ZaN
 case convert src d x =>
  obtain⟨v,c,k1,k2,k3⟩:=NQ (hR.ev x) h;exact ZaN
 case makeFunc fn first aj =>
  have key:∀(l:Array Operand) (i:Nat) (x:V),(l.toList.map (ev e))[i]?=some x->aD σ s w x ((l.map a.eval).getD i undef):=by intro l i x hx;obtain⟨u,h1,h2⟩:=CN hR l.toList i x hx;have:=sJ h1 undef;rw[<- List.map_toArray]at this;simp only[Array.toArray_toList]at this;rw[this];exact h2
  refine same (c:=.func fn (first.map a.eval) (aj.map a.eval)) (by simp [execOp,Instr.makeFunc]) (.cl aq (key first) aq (key aj)) h
 case makeSlice t l c =>
  obtain⟨v,r,σ',s',w',k1,k2,k3,k4,k5⟩:=Cy hI (hR.ev l) (hR.ev c) h;exact ZcD
 case slice t x lo hi mx =>
  have opt:∀(y:Option Operand) (v:V),y.map (ev e)=some v->∃c,y.map a.eval=some c/\aD σ s w v c:=by
   intro y v hv;cases y with
   |none=>cases hv
   |some y=>simp only[ala,alb]at hv;subst hv;exact⟨_,rfl,hR.ev y⟩
  have ZJ:∀(y:Option Operand),y.map (ev e)=none->y.map a.eval=none:=by
   intro y hv;cases y with
   |none=>rfl
   |some y=>cases hv
  obtain⟨v,c,k1,k2,k3⟩:=L4 (hR.ev x) (opt lo) (ZJ lo) (opt hi) (ZJ hi) (opt mx) (ZJ mx) h;exact ZaN
 case fieldAddr t x f =>
  obtain⟨v,c,k1,k2,k3⟩:=CK (hR.ev x) h;exact ZaN
 case field t x f =>
  obtain⟨v,c,k1,k2,k3⟩:=K0 (hR.ev x) h;exact ZaN
 case indexAddr t x i =>
  obtain⟨v,c,k1,k2,k3⟩:=Cs (hR.ev x) (hR.ev i) h;exact ZaN
 case index t x i =>
  obtain⟨v,c,k1,k2,k3⟩:=KD (hR.ev x) (hR.ev i) h;exact ZaN
 case extract x i =>
  unfold zC at h;have hx:=hR.ev x;split at h
  case h_2=>exact h.elim
  rename_i vs ky;rw[ky]at hx;split at h
  case h_2=>exact h.elim
  rename_i v hv;generalize yN:a.eval x=ZL at hx;cases hx with|tu h1 h2=>?_
  rename_i arr;have aE:=(List.getElem?_eq_some_iff.1 hv).1;obtain⟨c,hc⟩:∃c,arr[i]?=some c:=⟨arr[i]' ae,by rw[Array.getElem?_eq_getElem]⟩
  have hd:arr.getD i undef=c:=by rw[Array.getD_eq_getD_getElem?,hc];rfl
  exact same (c:=c) (by simp [execOp,yN,Instr.extract,hc]) (by rw[<- hd];exact h2 i v hv) h
 case makeMap t r =>
  obtain⟨v,c,σ',s',w',k1,k2,k3,k4,k5⟩:=F0 (P:=P) hI h;have hr:r=none:=h.1;subst hr;exact fx (by simp only[execOp,Option.map_none];exact r1 k1) k2 k3 k4 k5
 case lookup t x i ok =>
  cases ok with
  |true=>exact h.elim
  |false =>
   simp only[cond_false]at h;obtain⟨v,c,k1,k2,k3⟩:=Jb hI (hR.ev x) (hR.ev i) h;exact ZaN
 case mapUpdate t x y z =>
  exact Zeg
 case insert t x y z =>
  exact Zeg
 case call c =>
  obtain⟨callee,args,argTypes⟩:=c;unfold iB at h;have PZ:∀(l:List Operand),l=args.toList->∀(i:Nat) (x:V),(l.map (ev e))[i]?=some x->∃u,(args.map a.eval).toList[i]?=some u/\aD σ s w x u:=by rintro l rfl i x hx;obtain⟨u,h1,h2⟩:=CN hR args.toList i x hx;exact⟨u,by simpa using h1,h2⟩
  split at h
  ·rename_i f hf;simp only at hf;subst hf;refine KK (f:=f) (vals:=args.map a.eval) (by
    rw[execOp_call_go,Array.empty_append,Array.append_empty]) hI aq (λi x hx=>?_) h
   obtain⟨u,h1,h2⟩:=PZ _ rfl i x hx;have:=sJ h1 undef;simp only[Array.toArray_toList]at this;rw[this];exact h2
  ·rename_i f _ hf;simp only at hf;subst hf;split at h
   ·rename_i g first aj cQ
    have hx:=QH (hR.2.2 0) (hR.ev f);rw[cQ]at hx;generalize yN:a.eval f=ZL at hx;cases hx with|cl h1 h2 h3 h4=>?_
    rename_i f' c';refine KK (f:=g) (vals:=f'++args.map a.eval++c') (by
     simp [execOp,resolve,yN,Deferred.ofValue,invoke]) hI (by simp [h1,h3]) (λi x hx=>?_) h
    have gd:∀(arr:Array Value) (j:Nat),j<arr.size->arr[j]?=some (arr.getD j undef):=λarr j hj=>by simp [Array.getD,hj]
    by_cases ic:i<first.length
    ·rw[alx,List.getElem?_append_left ic]at hx;have:(f'++args.map a.eval++c').getD i undef=f'.getD i undef:=by rw[Array.getD_eq_getD_getElem?,Array.append_assoc,Array.getElem?_append_left ae,Array.getD_eq_getD_getElem?]
     rw[this];exact h2 i x hx
    ·rw[alx,List.getElem?_append_right ae]at hx;simp only at hx;by_cases hi2:i-first.length<(args.toList.map (ev e)).length
     ·rw[List.getElem?_append_left hi2]at hx;obtain⟨u,k1,k2⟩:=PZ _ rfl _ x hx;have:(f'++args.map a.eval++c').getD i undef=u:=by rw[Array.getD_eq_getD_getElem?,Array.append_assoc,Array.getElem?_append_right ae,Array.getElem?_append_left (by simp at hi2 ⊢;omega),h1];rw[Array.getElem?_toList]at k1;rw[k1];rfl
      rw[this];exact k2
     ·rw[List.getElem?_append_right ae]at hx;have:(f'++args.map a.eval++c').getD i undef=c'.getD (i-first.length-(args.toList.map (ev e)).length) undef:=by rw[Array.getD_eq_getD_getElem?,Array.append_assoc,Array.getElem?_append_right ae,Array.getElem?_append_right (by simp at hi2 ⊢;omega),Array.getD_eq_getD_getElem?];congr 2;simp [h1]
      rw[this];exact h4 _ x hx
   ·exact h.elim
  ·rename_i b hb;simp only at hb;subst hb;have kJ:∀(l:List Operand),args.toList=l->args=l.toArray:=λl hl=>by rw[<- hl]
   have Ui:∀(l:List TypeId),argTypes.toList=l->argTypes=l.toArray:=λl hl=>by rw[<- hl]
   split at h
   ·rename_i x t h1 h2;have e1:=kJ _ h1;have e2:=Ui _ h2;subst e1;subst e2;obtain⟨v,c,k1,k2,k3⟩:=QN (ty:=ty) (hR.ev x) h;exact Zdu
   ·rename_i x y t t' h1 h2;have e1:=kJ _ h1;have e2:=Ui _ h2;subst e1;subst e2;split at h
    ·rename_i ht;subst ht;obtain⟨v,r,σ',s',w',k1,k2,k3,k4,k5⟩:=Jw (ty:=ty) hI (hR.ev x) (hR.ev y) h;exact ZbF
    ·obtain⟨v,r,σ',s',w',k1,k2,k3,k4,k5⟩:=Gc (ty:=ty) hI (hR.ev x) (hR.ev y) h;exact ZbF
   ·rename_i x y t t' h1 h2;have e1:=kJ _ h1;have e2:=Ui _ h2;subst e1;subst e2;obtain⟨rfl,h⟩:=h;obtain⟨v,r,s',w',k1,k2,k3,k4,k5⟩:=NM (ty:=ty) hI (hR.ev x) (hR.ev y) h;exact ZbF
   ·rename_i x t h1 h2;have e1:=kJ _ h1;have e2:=Ui _ h2;subst e1;subst e2;obtain⟨v,r,s',w',k1,k2,k3,k4,k5⟩:=Ma (ty:=ty) hI (hR.ev x) h;exact ZbF
   ·rename_i x rest h1;have e1:=kJ _ h1;subst e1;obtain⟨v,r,k1,k2,k3⟩:=sZ (P:=P) (mn:=true) (rest.map (ev e)) (rest.map a.eval) (ev e x) (a.eval x) _ (hR.ev x) aq (CN hR rest) h;simp only[if_true]at k1;exact same (by simp [execOp,resolve,invoke,builtin,Builtin.min_,k1]) k2 k3
   ·rename_i x rest h1;have e1:=kJ _ h1;subst e1;obtain⟨v,r,k1,k2,k3⟩:=sZ (P:=P) (mn:=false) (rest.map (ev e)) (rest.map a.eval) (ev e x) (a.eval x) _ (hR.ev x) aq (CN hR rest) h;simp only[alk,if_false]at k1;exact same (by simp [execOp,resolve,invoke,builtin,Builtin.max_,k1]) k2 k3
   ·rename_i x t h1 h2;have e1:=kJ _ h1;have e2:=Ui _ h2;subst e1;subst e2;obtain⟨v,c,k1,k2,k3⟩:=RQ (ty:=ty) (hR.ev x) h;exact Zdu
   ·exact h.elim
  ·exact h.elim
end Go.VL
