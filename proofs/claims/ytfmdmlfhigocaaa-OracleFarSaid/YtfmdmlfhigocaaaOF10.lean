/- A part of the proof (Vo Vp Vpa Vgr). -/
import Derived.Test.YtfmdmlfhigocaaaOF3
import Derived.Test.YtfmdmlfhigocaaaOF9
set_option linter.unusedSimpArgs false
set_option linter.unusedVariables false
set_option maxRecDepth 100000
set_option maxHeartbeats 80000000
namespace Go.VL
def iw (X:(V->Prop)->Prop):Prop:=∀K,X K->∃v,X (fun v'=>v'=v)/\K v
def nn (X:(V->List Obj->Prop)->Prop):Prop:=∀K,X K->∃v s,X (fun v' s'=>v'=v/\s'=s)/\K v s
theorem qw {agg n cs}:iw (nd agg n cs):=by
 intro K h
 unfold nd at *
 cases agg with
 |true=>exact⟨_,⟨h.1,rfl⟩,h.2⟩
 |false =>
  cases cs with
  |nil=>exact h.2.elim
  |cons v l=>exact⟨v,⟨h.1,rfl⟩,h.2⟩
theorem kA {s id g}{F:Obj->(V->Prop)->Prop} (hF:∀o,iw (F o)):iw fun K=>rj s id g fun o=>F o K:=by
 intro K h
 unfold rj at *
 cases hs:s[id]? with
 |none=>rw[hs]at h;exact h.elim
 |some o =>
  simp only[hs]at h ⊢
  obtain⟨v,h1,h2⟩:=hF o K h.2
  exact⟨v,⟨h.1,h1⟩,h2⟩
theorem y4 {s id g}{F:Obj->(V->List Obj->Prop)->Prop} (hF:∀o,nn (F o)):nn fun K=>rj s id g fun o=>F o K:=by
 intro K h
 unfold rj at *
 cases hs:s[id]? with
 |none=>rw[hs]at h;exact h.elim
 |some o =>
  simp only[hs]at h ⊢
  obtain⟨v,s1,h1,h2⟩:=hF o K h.2
  exact⟨v,s1,⟨h.1,h1⟩,h2⟩
theorem aX {v:V}:iw fun K=>K v:=fun _ h=>⟨v,rfl,h⟩
theorem aB:iw fun _=>False:=fun _ h=>h.elim
theorem bz {c:Prop}{X:(V->Prop)->Prop} (h:iw X):iw fun K=>c/\X K:=fun K hk =>
 let ⟨v,h1,h2⟩:=h K hk.2
 ⟨v,⟨hk.1,h1⟩,h2⟩
theorem cw {v:V}{s:List Obj}:nn fun K=>K v s:=fun _ h=>⟨v,s,⟨rfl,rfl⟩,h⟩
theorem aM:nn fun _=>False:=fun _ h=>h.elim
theorem cf {c:Prop}{X:(V->List Obj->Prop)->Prop} (h:nn X):nn fun K=>c/\X K:=fun K hk =>
 let ⟨v,s,h1,h2⟩:=h K hk.2
 ⟨v,s,⟨hk.1,h1⟩,h2⟩
theorem eC {X:(V->Prop)->Prop}{s:List Obj} (h:iw X):nn fun K=>X fun v=>K v s:=by
 intro K hk
 obtain⟨v,h1,h2⟩:=h _ hk
 refine⟨v,s,?_,h2⟩
 simpa using h1
theorem FV {P t s p}:iw (jJ P t s p):=by
 unfold jJ
 cases cb P t with
 |none=>exact aB
 |some i =>
  simp only
  cases p with
  |d x =>
   cases x with
   |el cs=>exact qw
   |_=>exact aB
  |rf id g k off =>
   simp only
   cases s[id]? with
   |none=>exact aB
   |some o =>
    simp only
    cases o.au[k]? with
    |none=>exact bz aB
    |some cs=>exact bz qw
  |pp id g k off b a =>
   simp only
   cases s[id]? with
   |none=>exact aB
   |some o =>
    simp only
    cases o.au[k]? with
    |none=>exact bz aB
    |some cs=>exact bz qw
  |bx v=>exact qw
  |_=>exact aB
theorem xl {P t s p f}:iw (dN P t s p f):=by
 unfold dN
 cases aZ P t f with
 |none=>exact aB
 |some i =>
  simp only
  split
  ·exact aX
  ·exact kA fun _=>aX
  ·exact kA fun _=>aX
  ·exact aX
  ·exact aB
theorem HG {au i z}:iw (OK au i z):=by
 unfold OK
 cases au[i]? with
 |none=>exact aB
 |some cs=>exact bz aX
theorem xk {P t s x i}:iw (c7 P t s x i):=by
 unfold c7
 split
 ·split
  ·split
   ·exact bz (bz HG)
   ·exact bz (bz HG)
   ·exact kA fun _=>bz (bz (bz aX))
   ·exact aB
  ·split
   ·split
    ·exact bz (bz aX)
    ·exact kA fun _=>bz (bz aX)
    ·exact aB
   ·exact aB
 ·exact aB
theorem xW {P t cs off}:iw (pC P t cs off):=by
 unfold pC
 cases cb P t with
 |none=>exact aB
 |some i =>
  simp only
  cases i.agg with
  |true=>exact bz aX
  |false =>
   simp only
   cases cs[off]? with
   |none=>exact aB
   |some v=>exact aX
theorem Fh {P t x f}:iw (kz P t x f):=by
 unfold kz
 split
 ·split
  ·split
   ·exact xW
   ·exact aB
  ·exact aB
 ·exact aB
theorem Ea {P t x i}:iw (iL P t x i):=by
 unfold iL
 split
 ·split
  ·split
   ·split
    ·exact bz (bz xW)
    ·exact aB
   ·exact aB
  ·exact aB
 ·exact aB
theorem D5 {P t parts}:iw (mX P t parts):=by
 unfold mX
 split
 ·exact aB
 ·split
  ·split
   ·exact aX
   ·exact aB
  ·split
   ·split
    ·exact aX
    ·exact aB
   ·exact aB
theorem Ff {P t s}:nn (mW P t s):=by
 unfold mW
 split
 ·exact aM
 ·exact cw
theorem IE {s x}:nn (wR s x):=by
 unfold wR
 split
 ·exact aM
 ·exact cw
theorem vj {P t len parts s}:nn (dK P t len parts s):=by
 unfold dK
 split
 ·exact aM
 ·refine cf ?_
  split
  ·exact aM
  ·split
   ·exact cw
   ·exact cw
theorem xq {P t l c s}:nn (eV P t l c s):=by
 unfold eV
 split
 ·exact aM
 ·split
  ·exact cf cw
  ·exact aM
theorem Ci {P t a x s}:nn (cP P t a x s):=by
 unfold cP
 split
 ·exact aM
 ·split
  ·exact aM
  ·refine cf ?_
   split
   ·split
    ·exact cf cw
    ·exact cf cw
   ·exact y4 fun _=>cf cw
   ·exact aM
theorem zI {P t t' a x s}:nn (jd P t t' a x s):=by
 unfold jd
 split
 ·exact aM
 ·split
  ·split
   ·exact cf cw
   ·exact aM
  ·exact aM
theorem Jy {P t x}:iw (Fe P t x):=by
 unfold Fe
 split
 ·split
  ·exact aX
  ·exact aB
 ·exact aB
theorem zB {P t x lo hi mx}:iw (jX P t x lo hi mx):=by
 unfold jX
 split
 ·exact aB
 ·split
  ·exact bz aX
  ·exact aB
theorem CX {P t x lo hi mx s}:iw (jw P t x lo hi mx s):=by
 unfold jw
 split
 ·exact zB
 ·split
  ·exact aB
  ·split
   ·refine bz ?_
    split
    ·exact bz aX
    ·exact bz aX
    ·exact bz (bz (bz aX))
    ·refine kA fun _=>bz ?_
     split
     ·exact aX
     ·exact aX
    ·exact aB
   ·exact aB
theorem JN {P t x s}:iw (jG P t x s):=by
 unfold jG
 split
 ·split
  ·exact aX
  ·exact aX
  ·exact aX
  ·exact aB
 ·split
  ·exact aX
  ·exact aB
 ·exact aB
theorem Jw {op k a b}:iw (dX op k a b):=by
 unfold dX
 split <;> first|exact aX|exact bz aX|exact aB|(split <;> first|exact aX|exact bz aX|exact aB)
theorem Ex {P op t xs ys}:iw (g7 P op t xs ys):=by
 unfold g7
 split
 ·refine bz ?_
  split <;> first|exact aX|exact aB
 ·refine bz ?_
  split <;> first|exact aX|exact aB
 ·exact aB
theorem GQ {P op t s x y}:iw (cN P op t s x y):=by
 unfold cN
 split <;> first|exact Ex|exact bz Jw|exact aB|(refine bz ?_;split <;> first|exact aX|exact aB)|(refine bz (bz ?_);split <;> first|exact aX|exact aB)|(split <;> first|exact aX|exact aB)
theorem Jf {P op t s x y}:iw (na P op t s x y):=by
 unfold na
 split
 ·unfold oI
  split
  ·exact bz aX
  ·exact aB
 ·exact GQ
theorem DW {P op t s x}:iw (dv P op t s x):=by
 unfold dv
 refine bz (bz ?_)
 split <;> first|exact aX|exact aB|exact kA fun _=>aX
theorem Ll {op x}:iw (xm op x):=by
 unfold xm
 split <;> first|exact aX|exact aB
theorem FX {P a b x}:iw (nh P a b x):=by
 unfold nh
 split
 ·split <;> first|exact aX|exact aB
 ·exact aB
theorem oy {mn}:∀(ys:List V) (acc:V),iw (ed mn acc ys)
 |[],acc=>aX
 |y::ys,acc=>by
  intro K h
  unfold ed at h
  split at h
  ·obtain⟨v,h1,h2⟩:=oy ys _ K h
   exact⟨v,by unfold ed;exact h1,h2⟩
  ·exact h.elim
theorem Ji {s x}:iw (ic s x):=by
 unfold ic
 split
 ·exact aX
 ·exact kA fun _=>aX
 ·exact kA fun _=>aX
 ·exact aX
 ·exact aX
 ·exact aB
theorem IT {x i}:iw (uj x i):=by
 unfold uj
 split
 ·split
  ·exact aX
  ·exact aB
 ·exact aB
theorem Ee {x a b s}:nn fun K=>fz x (K a s) (K b s):=by
 unfold fz
 split
 ·rename_i b'
  cases b' with
  |true=>intro K h;exact⟨a,s,by simp,h.1 rfl⟩
  |false=>intro K h;exact⟨b,s,by simp,h.2 rfl⟩
 ·exact aM
theorem ET {P t s p x}:nn fun K=>fK P t s p x fun s'=>K .un s':=by
 unfold fK
 split
 ·exact aM
 ·split
  ·split
   ·exact aM
   ·refine cf (cf ?_)
    split
    ·exact aM
    ·split
     ·exact aM
     ·exact cf (cf cw)
  ·split
   ·exact aM
   ·refine cf (cf ?_)
    split
    ·exact aM
    ·split
     ·exact aM
     ·exact cf (cf cw)
  ·exact aM
theorem GU {P t a x s}:nn (vf P t a x s):=by
 unfold vf
 split
 ·exact aM
 ·split
  ·exact aM
  ·refine cf ?_
   split
   ·unfold rj
    split
    ·exact aM
    ·exact cf (cf cw)
   ·exact aM
theorem CE {P t x s}:nn (mD P t x s):=by
 unfold mD
 split
 ·exact aM
 ·split
  ·unfold rj
   split
   ·exact aM
   ·exact cf (cf cw)
  ·exact cw
  ·exact aM
theorem Dj {P t s m k}:iw (mU P t s m k):=by
 unfold mU
 split
 ·exact aB
 ·split
  ·split
   ·refine kA fun _=>bz ?_
    split
    ·exact aB
    ·exact aX
   ·exact aB
  ·exact aB
theorem GF {P t s m k x}:nn fun K=>yj P t s m k x fun s'=>K .un s':=by
 unfold yj
 split
 ·exact aM
 ·split
  ·split
   ·split
    ·refine y4 fun _=>cf ?_
     split
     ·exact aM
     ·exact cf cw
    ·exact aM
   ·exact aM
  ·exact aM
theorem BN {P t s m k}:iw (gN P t s m k):=by
 unfold gN
 split
 ·exact Dj
 ·split
  ·split
   ·refine kA fun _=>bz ?_
    split
    ·exact aB
    ·exact aX
   ·exact aB
  ·exact aB
theorem Ak {P t s m k x}:nn fun K=>si P t s m k x fun s'=>K .un s':=by
 unfold si
 split
 ·exact GF
 ·split
  ·split
   ·split
    ·refine y4 fun _=>cf ?_
     split
     ·exact aM
     ·exact cf cw
    ·exact aM
   ·exact aM
  ·exact aM
theorem z7 {P t r s}:nn (lK P t r s):=cf cw
def Gn (o:Oper):Bool :=
 match o.op with
 |.call c=>match c.callee with
  |.value _=>true
  |_=>false
 |_=>false
theorem Gb {P o e s} (hc:Gn o=false):nn (cz P o e s):=by
 obtain⟨dst,op,ty,pos,after,guard⟩:=o
 unfold cz
 cases op <;> simp only
 case move=>exact cw
 case assign=>exact cw
 case pick=>exact Ee
 case alloc=>exact Ff
 case box=>exact IE
 case build=>exact eC D5
 case buildSlice=>exact vj
 case load=>exact eC FV
 case store=>exact ET
 case nilCheck=>exact eC Ji
 case binOp op t x y t' =>
  cases Kq y with
  |true=>exact eC DW
  |false=>exact eC Jf
 case unOp=>exact eC Ll
 case convert=>exact eC FX
 case makeFunc=>exact cw
 case makeSlice=>exact xq
 case slice=>exact eC CX
 case fieldAddr=>exact eC xl
 case field=>exact eC Fh
 case indexAddr=>exact eC xk
 case index=>exact eC Ea
 case extract=>exact eC IT
 case makeMap=>exact z7
 case lookup t x i ok =>
  cases ok with
  |true=>exact aM
  |false=>exact eC BN
 case mapUpdate=>exact Ak
 case insert=>exact Ak
 case call c =>
  unfold fw
  simp only[Gn]at hc
  split
  ·rename_i h;rw[h]at hc;cases hc
  ·rename_i h;rw[h]at hc;cases hc
  ·split
   ·exact eC JN
   ·split
    ·exact Ci
    ·exact zI
   ·exact cf GU
   ·exact CE
   ·exact eC (oy _ _)
   ·exact eC (oy _ _)
   ·exact eC Jy
   ·exact aM
  ·exact aM
 all_goals exact aM
def eJ:V->List Nat
 |.rf id _ _ _=>[id]
 |.pp id _ _ _ _ _=>[id]
 |.so id _ _ _=>[id]
 |.mp id _=>[id]
 |_=>[]
def oQ (e:Env) (o:Oper):List Nat :=
 match o.op with
 |.move _|.assign _|.pick ..|.build ..|.buildSlice ..|.makeFunc ..=>[]
 |.load _ a=>eJ (sa (e 0) (ev e a))
 |.call ⟨.builtin .len,_,_⟩=>[]
 |_=>o.op.operands.toList.flatMap fun x=>eJ (ev e x)
def JD (o:Oper):Bool :=
 match o.op with
 |.move _|.assign _|.pick ..|.build ..|.buildSlice ..|.load ..|.nilCheck _|.binOp ..|.unOp ..|.convert ..|.makeFunc ..|.slice ..|.fieldAddr ..|.field ..|.indexAddr ..|.index ..|.extract ..|.lookup ..=>true
 |.call c=>match c.callee with
  |.builtin .len=>true
  |.builtin .min=>true
  |.builtin .max=>true
  |.builtin .append=>true
  |_=>false
 |_=>false
section
variable {P:Program}{s s':List Obj}
theorem eK {id g:Nat} (h:s'[id]?=s[id]?) (K:Obj->Prop):rj s id g K=rj s' id g K:=by
 unfold rj;rw[h]
theorem Cx {t:TypeId}{p:V} (h:∀id∈eJ p,s'[id]?=s[id]?) (K:V->Prop):jJ P t s p K=jJ P t s' p K:=by
 unfold jJ
 cases cb P t with
 |none=>rfl
 |some i =>
  cases p with
  |rf id g k off=>simp only[h id (by simp [eJ])]
  |pp id g k off b a=>simp only[h id (by simp [eJ])]
  |d x=>cases x <;> rfl
  |_=>rfl
theorem uV {t:TypeId}{p:V}{f:Nat} (h:∀id∈eJ p,s'[id]?=s[id]?) (K:V->Prop):dN P t s p f K=dN P t s' p f K:=by
 unfold dN
 cases aZ P t f with
 |none=>rfl
 |some d =>
  cases p with
  |rf id g k off=>simp only[eK (h id (by simp [eJ]))]
  |pp id g k off b a=>simp only[eK (h id (by simp [eJ]))]
  |d x=>simp only;split <;> first|rfl|(rename_i he;cases he)
  |_=>rfl
theorem uZ {t:TypeId}{p i:V} (h:∀id∈eJ p,s'[id]?=s[id]?) (K:V->Prop):c7 P t s p i K=c7 P t s' p i K:=by
 unfold c7
 split
 ·split
  ·cases p with
   |so id g lo n=>simp only[eK (h id (by simp [eJ]))]
   |d x=>cases x <;> rfl
   |_=>rfl
  ·split
   ·cases p with
    |rf id g k off=>simp only[eK (h id (by simp [eJ]))]
    |d x=>cases x <;> rfl
    |_=>rfl
   ·rfl
 ·rfl
theorem EZ {t:TypeId}{p:V} (K:V->Prop):jG P t p s K=jG P t p s' K:=by
 unfold jG
 split
 ·cases p with
  |so id g lo n=>rfl
  |d x=>cases x <;> rfl
  |_=>rfl
 ·rfl
 ·rfl
theorem zY {t:TypeId}{p k:V} (h:∀id∈eJ p,s'[id]?=s[id]?) (K:V->Prop):mU P t s p k K=mU P t s' p k K:=by
 unfold mU
 cases yv P t with
 |none=>rfl
 |some ik =>
  cases p with
  |mp id g=>simp only[eK (h id (by simp [eJ]))]
  |_=>rfl
theorem yX {t:TypeId}{p k:V} (h:∀id∈eJ p,s'[id]?=s[id]?) (K:V->Prop):gN P t s p k K=gN P t s' p k K:=by
 unfold gN
 cases DJ P t with
 |none=>exact zY h K
 |some ik =>
  cases p with
  |mp id g=>simp only[eK (h id (by simp [eJ]))]
  |_=>rfl
theorem DI {p:V} (h:∀id∈eJ p,s'[id]?=s[id]?) (K:V->Prop):ic s p K=ic s' p K:=by
 cases p with
 |rf id g k off=>simp only[ic,eK (h id (by simp [eJ]))]
 |pp id g k off b a=>simp only[ic,eK (h id (by simp [eJ]))]
 |d x=>unfold ic;split <;> first|rfl|(rename_i he;cases he)
 |cl f a b=>cases f <;> rfl
 |_=>rfl
theorem zi {p:V} (h:∀id∈eJ p,s'[id]?=s[id]?):fV s p=fV s' p:=by
 unfold fV
 cases p with
 |so id g lo n=>simp only[h id (by simp [eJ])]
 |d x=>cases x <;> rfl
 |_=>rfl
theorem Ae {t:TypeId}{p:V}{lo hi mx:Option V} (h:∀id∈eJ p,s'[id]?=s[id]?) (K:V->Prop):jw P t p lo hi mx s K=jw P t p lo hi mx s' K:=by
 unfold jw
 rw[zi h]
 split
 ·rfl
 ·split
  ·rfl
  ·split
   ·congr 1
    cases mx with
    |none =>
     cases p with
     |so id g lo n=>simp only[eK (h id (by simp [eJ]))]
     |d x=>cases x <;> rfl
     |_=>rfl
    |some m =>
     cases p with
     |d x=>cases x <;> rfl
     |_=>rfl
   ·rfl
theorem Ab {op:BinOp}{t:TypeId}{p:V} (h:∀id∈eJ p,s'[id]?=s[id]?) (K:V->Prop):dv P op t s p K=dv P op t s' p K:=by
 unfold dv
 cases p with
 |so id g lo n=>cases n <;> simp only[eK (h id (by simp [eJ]))]
 |d x=>cases x with
  |sl au=>cases au <;> rfl
  |_=>rfl
 |fu au=>cases au <;> rfl
 |_=>rfl
theorem wQ {p:V} (h:∀id∈eJ p,s'[id]?=s[id]?):mG s p=mG s' p:=by
 unfold mG
 cases p with
 |rf id g k off=>simp only[eK (h id (by simp [eJ]))]
 |pp id g k off b a=>simp only[eK (h id (by simp [eJ]))]
 |d x=>cases x <;> rfl
 |_=>rfl
theorem BY {op:BinOp}{t:TypeId}{x y:V} (h:∀id∈eJ x,s'[id]?=s[id]?) (h':∀id∈eJ y,s'[id]?=s[id]?) (K:V->Prop):cN P op t s x y K=cN P op t s' x y K:=by
 unfold cN
 split <;> simp only[wQ h,wQ h']
theorem E9 {op:BinOp}{t:TypeId}{x y:V} (h:∀id∈eJ x,s'[id]?=s[id]?) (h':∀id∈eJ y,s'[id]?=s[id]?) (K:V->Prop):na P op t s x y K=na P op t s' x y K:=by
 unfold na
 split
 ·rfl
 ·exact BY h h' K
theorem P0 {s:List Obj}{id:Nat}{o n:Obj} (ho:s[id]?=some o) (hn:n.g≠o.g):s.set id n≠s:=by
 intro h
 have h1:=List.getElem?_set_self (a:=n) (List.getElem?_eq_some_iff.1 ho).1
 rw[h,ho]at h1
 cases h1
 exact hn rfl
theorem EL {t:TypeId}{a x v:V} (h:∀id∈eJ a,s'[id]?=s[id]?) (h':∀id∈eJ x,s'[id]?=s[id]?) (hw:cP P t a x s fun v' s1=>v'=v/\s1=s):cP P t a x s' fun v' s1=>v'=v/\s1=s':=by
 unfold cP at hw ⊢
 rw[zi h']at hw
 split at hw
 ·exact hw.elim
 rename_i i hi
 split at hw
 ·exact hw.elim
 rename_i ns sy
 refine⟨hw.1,?_⟩
 have hw:=hw.2
 split at hw
 ·split at hw
  ·exact⟨hw.1,hw.2.1,rfl⟩
  ·exact absurd (congrArg List.length hw.2.2) (by simp)
 ·exfalso
  obtain⟨o,ho,hg,⟨_,_,hs⟩⟩:=dA hw
  exact P0 ho (by simp only;omega) hs
 ·exact hw.elim
theorem Aa {t t':TypeId}{a x v:V} (hw:jd P t t' a x s fun v' s1=>v'=v/\s1=s):False:=by
 unfold jd at hw
 split at hw
 ·exact hw
 ·split at hw
  ·split at hw
   ·exact absurd (congrArg List.length hw.2.2) (by simp)
   ·exact hw
  ·exact hw
theorem DG {o:Oper}{e:Env}{v:V} (hr:JD o=true) (h:∀id∈oQ e o,s'[id]?=s[id]?) (hw:cz P o e s fun v' s1=>v'=v/\s1=s):cz P o e s' fun v' s1=>v'=v/\s1=s':=by
 obtain⟨dst,op,ty,pos,after,guard⟩:=o
 have rd:(oQ e ⟨dst,op,ty,pos,after,guard⟩=op.operands.toList.flatMap fun x=>eJ (ev e x))->∀x∈op.operands.toList,∀id∈eJ (ev e x),s'[id]?=s[id]?:=fun he x hx id cL=>h id (by rw[he];exact List.mem_flatMap.2 ⟨x,hx,cL⟩)
 unfold cz at hw ⊢
 cases op <;> simp only[JD,Bool.false_eq_true]at hr <;> simp only at hw ⊢
 case move=>exact hw
 case assign=>exact hw
 case pick=>simpa using hw
 case build=>exact hw
 case buildSlice =>
  unfold dK at hw ⊢
  split at hw
  ·exact hw.elim
  ·refine⟨hw.1,?_⟩
   have hw:=hw.2
   split at hw
   ·exact hw.elim
   ·split at hw
    ·exact⟨hw.1,rfl⟩
    ·exact absurd (congrArg List.length hw.2) (by simp)
 case load t a=>rw[Cx (fun id cL=>h id (by simpa [oQ]using cL))]at hw;exact hw
 case nilCheck a=>rw[DI (rd rfl a (by simp [Op.operands]))]at hw;exact hw
 case binOp op t x y t' =>
  cases hn:Kq y with
  |true=>rw[hn]at hw;simp only[cond_true]at hw ⊢;rw[Ab (rd rfl x (by simp [Op.operands]))]at hw;exact hw
  |false=>rw[hn]at hw;simp only[cond_false]at hw ⊢;rw[E9 (rd rfl x (by simp [Op.operands])) (rd rfl y (by simp [Op.operands]))]at hw;exact hw
 case unOp=>exact hw
 case convert=>exact hw
 case makeFunc=>exact hw
 case slice t x lo hi mx=>rw[Ae (rd rfl x (by simp [Op.operands]))]at hw;exact hw
 case fieldAddr t x f=>rw[uV (rd rfl x (by simp [Op.operands]))]at hw;exact hw
 case field=>exact hw
 case indexAddr t x i=>rw[uZ (rd rfl x (by simp [Op.operands]))]at hw;exact hw
 case index=>exact hw
 case extract=>exact hw
 case lookup t x i ok =>
  cases ok with
  |true=>exact hw.elim
  |false=>simp only[cond_false]at hw ⊢;rw[yX (rd rfl x (by simp [Op.operands]))]at hw;exact hw
 case call c =>
  obtain⟨callee,args,argTypes⟩:=c
  cases callee with
  |value f=>cases hr
  |invoke r m=>cases hr
  |builtin b =>
   unfold fw at hw ⊢
   simp only at hw ⊢ hr
   split at hw
   ·rename_i x t ha ht
    rw[EZ (s':=s')]at hw
    exact hw
   ·rename_i a x t t' ha ht
    split at hw
    ·rename_i VU
     rw[if_pos VU]
     exact EL (rd rfl a (by simp [Op.operands,Call.operands,ha])) (rd rfl x (by simp [Op.operands,Call.operands,ha])) hw
    ·exact(Aa hw).elim
   ·first|(cases hr;done)|(simp at hr;done)
   ·first|(cases hr;done)|(simp at hr;done)
   ·exact hw
   ·exact hw
   ·first|exact hw|(cases hr;done)|(simp at hr;done)
   ·exact hw.elim
end
def bS (s:List Obj) (id:Nat):List Obj :=
 match s[id]? with
 |some o=>s.set id { o with live:=false }
 |none=>s
def ca (s:List Obj):List Nat->List Obj
 |[]=>s
 |id::ids=>ca (bS s id) ids
theorem hU {s:List Obj}{id jm:Nat}{o:Obj} (h:(bS s id)[jm]?=some o):∃o',s[jm]?=some o'/\o.g=o'.g/\o.sz=o'.sz/\o.au=o'.au/\(o.live=true->o'.live=true):=by
 unfold bS at h
 split at h
 ·rename_i o0 To
  rw[List.getElem?_set]at h
  split at h
  ·rename_i he
   subst he
   split at h
   ·simp only[Option.some.injEq]at h;subst h;exact⟨o0,To,rfl,rfl,rfl,fun h=>by cases h⟩
   ·cases h
  ·exact⟨o,h,rfl,rfl,rfl,fun h=>h⟩
 ·exact⟨o,h,rfl,rfl,rfl,fun h=>h⟩
theorem LG {s:List Obj}{id jm:Nat}{o:Obj} (h:s[jm]?=some o):∃o',(bS s id)[jm]?=some o'/\o'.g=o.g/\o'.sz=o.sz:=by
 unfold bS
 split
 ·rename_i o0 To
  rw[List.getElem?_set]
  split
  ·rename_i he
   subst he
   rw[To]at h;cases h
   rw[if_pos (List.getElem?_eq_some_iff.1 To).1]
   exact⟨_,rfl,rfl,rfl⟩
  ·exact⟨o,h,rfl,rfl⟩
 ·exact⟨o,h,rfl,rfl⟩
theorem qa {σ:Gh}{s:List Obj}{w:World} (hI:Inv σ s w) (id:Nat):aA σ s w σ (bS s id) w/\Inv σ (bS s id) w:=by
 have own:∀b,Own σ (bS s id) b->Own σ s b:=by
  rintro b (h|⟨jm,o,base,h1,h2,h3⟩)
  ·exact .inl h
  ·obtain⟨o',k1,_,_,_,k5⟩:=hU h1
   exact .inr ⟨jm,o',base,k1,k5 h2,h3⟩
 have hE:aA σ s w σ (bS s id) w:=⟨rfl,rfl,rfl,Nat.le_refl _,fun _ _ _=>rfl,fun _ arr _ _ h=>⟨arr,h,rfl⟩,fun _ _ h=>h,fun b h=>.inl (own b h),
  fun jm o ho=>let ⟨o',k1,k2,k3⟩:=LG (id:=id) ho;⟨o',k1,by omega,fun _=>⟨k3,rfl⟩⟩,rfl,fun _ _ _=>rfl⟩
 refine⟨hE,⟨fun jm o ho=>?_,fun i i' o o' b base bp h1 h2 h3 h4 h5=>?_,hI.low,fun i o b base h1 h2=>?_⟩⟩
 ·obtain⟨o',k1,_,k3,k4,_⟩:=hU ho
  rw[k4,k3]
  rcases hI.content jm o' k1 with h|⟨b,base,arr,E,h1,h2,h3,h4,h5⟩
  ·exact .inl (h.congr k4)
  ·exact .inr ⟨b,base,arr,E,h1,h2,h3,h4,fun i j x hx=>let ⟨u,g1,g2,g3⟩:=h5 i j x hx;⟨u,g1,g2,g3.aO hE⟩⟩
 ·obtain⟨p,k1,_,_,_,k5⟩:=hU h1
  obtain⟨p',l1,_⟩:=hU h2
  exact hI.inj i i' p p' b base bp k1 l1 (k5 h3) h4 h5
 ·obtain⟨p,k1,_⟩:=hU h1
  exact hI.apart i p b base k1 h2
theorem qq {σ:Gh}{w:World}:∀(ids:List Nat) (s:List Obj),Inv σ s w->aA σ s w σ (ca s ids) w/\Inv σ (ca s ids) w
 |[],s,hI=>⟨aA.refl _ _ _,hI⟩
 |id::ids,s,hI=>by
  obtain⟨h1,h2⟩:=qa hI id
  obtain⟨k1,k2⟩:=qq ids (bS s id) h2
  exact⟨h1.trans k1,k2⟩
theorem bA {P:Program}{f:FuncId}{args cargs:List V}{s:List Obj}{K:V->List Obj->Prop} (ids:List Nat) (hc:bh.go (ca s ids).length (ca s ids) args=some cargs) (h:aq P f cargs (ca s ids) K):aq P f args s K:=by
 refine⟨h.1,fun σ w vals hI hl hv=>?_⟩
 obtain⟨hE,im⟩:=qq ids s hI
 obtain⟨k1,k2⟩:=qy hc
 refine(h.2 σ w vals im (by omega) fun i x hx=>?_).mono fun e w' ⟨u,v,σ',s',h1,h2,h3,h4,h5⟩=>⟨u,v,σ',s',h1,hE.trans h2,h3,h4,h5⟩
 obtain⟨y,hy,hf⟩:=k2 i x hx
 have:=lL im ((hv i y hy).aO hE) hf
 rwa [List.take_length]at this
def fk (lim:Nat) (s:List Obj) (x:V):V:=(bh lim s x).getD .any
def vM (lim:Nat) (s:List Obj) (aR:List Nat) (e:Env):Env:=fun t=>if aR.contains t then fk lim s (e t) else .any
def iQ (lim:Nat) (s:List Obj):List Obj:=(s.take lim).map fun o=>{ o with au:=o.au.map fun c=>c.map (fk lim s) }
theorem pV {σ:Gh}{s:List Obj}{w:World} (hI:Inv σ s w) {lim:Nat}{x:V}{u:Value} (hr:aw σ s w x u):aw σ (s.take lim) w (fk lim s x) u:=by
 unfold fk
 cases h:bh lim s x with
 |none=>exact .any
 |some y=>exact lL hI hr h
theorem bI.Rt {L:Nat}{e:Env}{s:List Obj} (lim:Nat) (hL:L<=lim) (aR:List Nat):∀(σ0:Gh) (s0:List Obj) (w0:World) (σ:Gh) (w:World) (N:Nat) (a:Act),s0.length<=L->aA σ0 s0 w0 σ s w->Inv σ s w->dt σ s w N e a ->
  aA σ0 s0 w0 σ (iQ lim s) w/\Inv σ (iQ lim s) w/\dt σ (iQ lim s) w N (vM lim s aR e) a:=by
 intro σ0 s0 w0 σ w N a pk hE hI hR
 have Lj:=hE.take (lim:=lim) (by omega)
 have get:∀(id:Nat) (o:Obj),(iQ lim s)[id]?=some o->∃o',(s.take lim)[id]?=some o'/\o={ o' with au:=o'.au.map fun c=>c.map (fk lim s) }:=by
  intro id o ho
  unfold iQ at ho
  rw[List.getElem?_map]at ho
  obtain⟨o',h1,h2⟩:=Option.map_eq_some_iff.1 ho
  exact⟨o',h1,h2.symm⟩
 have zE:aA σ (s.take lim) w σ (iQ lim s) w:=by
  refine⟨rfl,rfl,rfl,Nat.le_refl _,fun _ _ _=>rfl,fun _ arr _ _ h=>⟨arr,h,rfl⟩,fun _ _ h=>h,fun b hb=>.inl ?_,fun id o ho=>?_,rfl,fun _ _ _=>rfl⟩
  ·rcases hb with h|⟨id,o,base,h1,h2,h3⟩
   ·exact .inl h
   ·obtain⟨o',k1,rfl⟩:=get id o h1
    exact .inr ⟨id,o',base,k1,h2,h3⟩
  ·exact⟨{ o with au:=o.au.map fun c=>c.map (fk lim s) },by unfold iQ;rw[List.getElem?_map,ho];rfl,Nat.le_refl _,fun _=>⟨rfl,rfl⟩⟩
 refine⟨Lj.trans zE,⟨fun id o ho=>?_,fun i i' o o' b base bp h1 h2 h3 h4 h5=>?_,hI.low,fun i o b base h1 h2=>?_⟩,⟨hR.1,hR.2.1,fun t=>?_⟩⟩
 ·obtain⟨o',k1,rfl⟩:=get id o ho
  have k2:s[id]?=some o':=by rw[List.getElem?_take]at k1;split at k1 <;> simp_all
  rcases hI.content id o' k2 with (⟨h1,h2⟩|⟨b,es,c,h1,h2,h3⟩)|⟨b,base,arr,E,h1,h2,h3,h4,h5⟩
  ·exact .inl (.inl ⟨h1,by simp [h2]⟩)
  ·refine .inl (.inr ⟨b,es,c,h1,h2,?_⟩)
   simp only[h3,eB,List.map_map]
   apply List.map_congr_left
   intro e _
   rfl
  ·refine .inr ⟨b,base,arr,E,h1,h2,fun c hc=>?_,by simpa using h4,fun i j x hx=>?_⟩
   ·obtain⟨c',HS,rfl⟩:=List.mem_map.1 hc
    simpa using h3 c' HS
   ·simp only[List.getElem?_map]at hx
    cases hi:o'.au[i]? with
    |none=>simp [hi]at hx
    |some c =>
     simp only[hi,Option.map_some,Option.bind_some,List.getElem?_map]at hx
     obtain⟨y,hy,rfl⟩:=Option.map_eq_some_iff.1 hx
     obtain⟨u,g1,g2,g3⟩:=h5 i j y (by simp [hi,hy])
     exact⟨u,g1,g2,(pV hI g3).aO zE⟩
 ·obtain⟨p,k1,rfl⟩:=get _ _ h1
  obtain⟨p',l1,rfl⟩:=get _ _ h2
  have k2:s[i]?=some p:=by rw[List.getElem?_take]at k1;split at k1 <;> simp_all
  have l2:s[i']?=some p':=by rw[List.getElem?_take]at l1;split at l1 <;> simp_all
  exact hI.inj i i' p p' b base bp k2 l2 h3 h4 h5
 ·obtain⟨p,k1,rfl⟩:=get _ _ h1
  have k2:s[i]?=some p:=by rw[List.getElem?_take]at k1;split at k1 <;> simp_all
  exact hI.apart i p b base k2 h2
 ·unfold vM
  split
  ·exact(pV hI (hR.2.2 t)).aO zE
  ·exact .any
theorem bI.drop {L:Nat}{e:Env}{s:List Obj} (lim:Nat) (hL:L<=lim) (aR:List Nat):bI L e s (vM lim s aR e) (iQ lim s) :=
 fun σ0 s0 w0 σ w N a h1 h2 h3 h4=>⟨σ,bI.Rt lim hL aR σ0 s0 w0 σ w N a h1 h2 h3 h4⟩
theorem bI.kill {L:Nat}{e:Env}{s:List Obj} (ids:List Nat):bI L e s e (ca s ids):=by
 intro σ0 s0 w0 σ w N a pk hE hI hR
 obtain⟨h1,h2⟩:=qq ids s hI
 exact⟨σ,hE.trans h1,h2,hR.aO h1⟩
theorem bI.D9 {L:Nat}{e:Env}{s:List Obj} (ids:List Nat) (lim:Nat) (hL:L<=lim) (aR:List Nat):bI L e s (vM lim (ca s ids) aR e) (iQ lim (ca s ids)) :=
 (bI.kill ids).trans (bI.drop lim hL aR)
theorem kG {lim:Nat}:∀{l:List V},(∀(i:Nat) (x:V),l[i]?=some x->ah lim x=true)->ah.go lim l=true
 |[],_=>rfl
 |v::vs,h=>by
  simp only[ah.go,Bool.and_eq_true]
  exact⟨h 0 v rfl,kG fun i x hx=>h (i+1) x (by simpa using hx)⟩
theorem fx {s:List Obj}{id:Nat}{o:Obj} (h:s[id]?=some o):id<s.length:=(List.getElem?_eq_some_iff.1 h).1
theorem aw.Qa {σ:Gh}{s:List Obj}{w:World}{x:V}{u:Value} (h:aw σ s w x u):ah s.length x=true:=by
 induction h with
 |d hx=>rfl
 |ag h1 h2 _ ih=>exact kG ih
 |tu h1 _ ih=>exact kG ih
 |fu hx=>rfl
 |so o ho hg hu hk=>exact decide_eq_true (fx ho)
 |rf o ho hg hu hk=>exact decide_eq_true (fx ho)
 |pp o ho hg hk=>exact decide_eq_true (fx ho)
 |mp o ho hg hu hk=>exact decide_eq_true (fx ho)
 |bx h1 h2 h3 hu _ ih=>exact ih
 |cap h1 _ ih=>exact ih
 |cl h1 _ h3 _ u9 u5 =>
  simp only[ah,Bool.and_eq_true]
  exact⟨kG u9,kG u5⟩
 |un=>rfl
 |any=>rfl
theorem aw.KG {σ σ':Gh}{s s':List Obj}{w:World}{n:Nat} (gi:∀b,Own σ' s' b->Own σ s b)
  (hobj:∀id o,id<n->s[id]?=some o->∃o',s'[id]?=some o'/\o.g<=o'.g/\(o'.g=o.g->o'.sz=o.sz/\σ' id=σ id)) {x:V}{u:Value} (hr:aw σ s w x u) (h:ah n x=true):aw σ' s' w x u:=by
 induction hr with
 |d hx=>exact .d (hx.own gi)
 |ag h1 h2 _ ih=>exact .ag h1 h2 fun i x hx=>ih i x hx (cZ (by simpa only[ah]using h) i x hx)
 |tu h1 _ ih=>exact .tu h1 fun i x hx=>ih i x hx (cZ (by simpa only[ah]using h) i x hx)
 |fu hx=>exact .fu (hx.own gi)
 |so o ho hg hu hk =>
  simp only[ah,decide_eq_true_eq]at h
  obtain⟨o',h1,h2,h3⟩:=hobj _ o h ho
  refine .so o' h1 (Nat.le_trans hg h2) hu fun he=>?_
  have e:o'.g=o.g:=by omega
  have:=hk (by omega)
  unfold vu at this ⊢
  rw[(h3 e).1,(h3 e).2]
  exact this
 |rf o ho hg hu hk =>
  simp only[ah,decide_eq_true_eq]at h
  obtain⟨o',h1,h2,h3⟩:=hobj _ o h ho
  refine .rf o' h1 (Nat.le_trans hg h2) hu fun he=>?_
  have e:o'.g=o.g:=by omega
  rw[(h3 e).1,(h3 e).2]
  exact hk (by omega)
 |pp o ho hg hk =>
  simp only[ah,decide_eq_true_eq]at h
  obtain⟨o',h1,h2,h3⟩:=hobj _ o h ho
  refine .pp o' h1 (Nat.le_trans hg h2) fun he=>?_
  have e:o'.g=o.g:=by omega
  rw[(h3 e).1,(h3 e).2]
  exact hk (by omega)
 |mp o ho hg hu hk =>
  simp only[ah,decide_eq_true_eq]at h
  obtain⟨o',h1,h2,h3⟩:=hobj _ o h ho
  refine .mp o' h1 (Nat.le_trans hg h2) hu fun he=>?_
  have e:o'.g=o.g:=by omega
  rw[(h3 e).2]
  exact hk (by omega)
 |bx h1 h2 h3 hu _ ih=>exact .bx h1 h2 (fun h'=>h3 (gi _ h')) hu (ih (by simpa only[ah]using h))
 |cap h1 _ ih=>exact .cap h1 (ih (by simpa only[ah]using h))
 |cl h1 _ h3 _ u9 u5 =>
  simp only[ah,Bool.and_eq_true]at h
  exact .cl h1 (fun i x hx=>u9 i x hx (cZ h.1 i x hx)) h3 (fun i x hx=>u5 i x hx (cZ h.2 i x hx))
 |un=>exact .un
 |any=>exact .any
def pG (σ:Gh) (h n:Nat):Gh:=⟨fun k=>if k=h then σ n else if n<=k then none else σ k,σ.base⟩
theorem yC {σ0 σ1:Gh}{s:List Obj}{w0 w1:World}{o ob:Obj}{h:Nat} (Us:Inv σ0 s w0) (hE:aA σ0 s w0 σ1 (s++[o]) w1) (hI:Inv σ1 (s++[o]) w1) (hh:s[h]?=some ob) (SZ:o.live=true)
  (hd:∀(i j:Nat) (x:V),(o.au[i]?.bind (·[j]?))=some x->ah 0 x=true\/ah s.length x=true) :
  aA σ0 s w0 (pG σ1 h s.length) (s.set h ⟨ob.g+1,true,o.sz,o.au⟩) w1/\Inv (pG σ1 h s.length) (s.set h ⟨ob.g+1,true,o.sz,o.au⟩) w1 /\
   ∀lo n u,aw σ1 (s++[o]) w1 (.so s.length o.g lo n) u->aw (pG σ1 h s.length) (s.set h ⟨ob.g+1,true,o.sz,o.au⟩) w1 (.so h (ob.g+1) lo n) u:=by
 have az:=fx hh
 have wX:(s.set h ⟨ob.g+1,true,o.sz,o.au⟩)[h]?=some ⟨ob.g+1,true,o.sz,o.au⟩:=by simp [az]
 have kR:∀k,k≠h->(s.set h (⟨ob.g+1,true,o.sz,o.au⟩:Obj))[k]?=s[k]?:=fun k hk=>by rw[List.getElem?_set_ne (fun e=>hk e.symm)]
 have xf:(s++[o])[s.length]?=some o:=by simp
 have hold:∀k ok,s[k]?=some ok->(s++[o])[k]?=some ok:=fun k ok hk=>by rw[List.getElem?_append_left (fx hk)];exact hk
 have gh:pG σ1 h s.length h=σ1 s.length:=if_pos rfl
 have go:∀k ok,k≠h->s[k]?=some ok->pG σ1 h s.length k=σ1 k:=fun k ok hk hs=>by
  show (if k=h then _ else if s.length<=k then _ else _)=_
  rw[if_neg hk,if_neg (by have:=fx hs;omega)]
 have gi:∀b,Own (pG σ1 h s.length) (s.set h ⟨ob.g+1,true,o.sz,o.au⟩) b->Own σ1 (s++[o]) b:=by
  rintro b (hb|⟨k,ok,base,h1,h2,h3⟩)
  ·exact .inl hb
  ·by_cases hk:k=h
   ·subst hk
    rw[gh]at h3
    exact .inr ⟨s.length,o,base,xf,SZ,h3⟩
   ·rw[kR k hk]at h1
    rw[go k ok hk h1]at h3
    exact .inr ⟨k,ok,base,hold k ok h1,h2,h3⟩
 have hobj:∀id o1,id<s.length->(s++[o])[id]?=some o1->∃o',(s.set h ⟨ob.g+1,true,o.sz,o.au⟩)[id]?=some o'/\o1.g<=o'.g/\(o'.g=o1.g->o'.sz=o1.sz/\pG σ1 h s.length id=σ1 id):=by
  intro id o1 cL h1
  rw[List.getElem?_append_left cL]at h1
  by_cases hk:id=h
  ·subst hk
   rw[hh]at h1;cases h1
   exact⟨_,wX,Nat.le_succ _,fun he=>by simp at he⟩
  ·exact⟨o1,by rw[kR id hk];exact h1,Nat.le_refl _,fun _=>⟨rfl,go id o1 hk h1⟩⟩
 have zE:aA σ0 s w0 (pG σ1 h s.length) (s.set h ⟨ob.g+1,true,o.sz,o.au⟩) w1:=by
  refine⟨hE.os,hE.tape,hE.output,hE.size,hE.aR,hE.shape,hE.nk,fun b hb=>hE.own b (gi b hb),fun id o1 h1=>?_,hE.base,hE.eT⟩
  obtain⟨o2,k1,k2,k3⟩:=hE.uY id o1 h1
  have cL:=fx h1
  obtain⟨o3,j1,j2,j3⟩:=hobj id o2 cL k1
  exact⟨o3,j1,Nat.le_trans k2 j2,fun he=>⟨(j3 (by omega)).1.trans (k3 (by omega)).1,(j3 (by omega)).2.trans (k3 (by omega)).2⟩⟩
 have hrefs:∀(id:Nat) (o1:Obj),s[id]?=some o1->∀(i j:Nat) (x:V),(o1.au[i]?.bind (·[j]?))=some x->ah s.length x=true:=by
  intro id o1 h1 i j x hx
  rcases Us.content id o1 h1 with (⟨_,he⟩|⟨b,es,c,_,_,he⟩)|⟨b,base,arr,E,_,_,_,_,h5⟩
  ·rw[he]at hx;simp at hx
  ·rw[he]at hx
   unfold eB at hx
   rw[List.getElem?_map]at hx
   cases Ay:es.toList[i]? with
   |none=>rw[Ay]at hx;cases hx
   |some y =>
    rw[Ay]at hx
    simp only[Option.map_some,Option.bind_some]at hx
    match j with
    |0=>simp at hx;subst hx;rfl
    |1=>simp at hx;subst hx;rfl
    |j+2=>simp at hx
  ·obtain⟨u,_,_,h6⟩:=h5 i j x hx
   exact h6.Qa
 refine⟨zE,⟨?_,?_,hI.low,?_⟩,?_⟩
 ·intro id o1 h1
  by_cases hk:id=h
  ·subst hk
   rw[wX]at h1;cases h1
   rw[gh]
   rcases hI.content _ _ xf with hb|⟨b,base,arr,E,k1,k2,k3,k4,k5⟩
   ·exact .inl (hb.congr rfl)
   ·refine .inr ⟨b,base,arr,E,k1,k2,k3,k4,fun i j x hx=>?_⟩
    obtain⟨u,j1,j2,j3⟩:=k5 i j x hx
    rcases hd i j x hx with OR|OR
    ·exact⟨u,j1,j2,j3.move OR gi⟩
    ·exact⟨u,j1,j2,aw.KG gi hobj j3 OR⟩
  ·rw[kR id hk]at h1
   rw[go id o1 hk h1]
   rcases hI.content _ _ (hold id o1 h1) with hb|⟨b,base,arr,E,k1,k2,k3,k4,k5⟩
   ·exact .inl hb
   ·refine .inr ⟨b,base,arr,E,k1,k2,k3,k4,fun i j x hx=>?_⟩
    obtain⟨u,j1,j2,j3⟩:=k5 i j x hx
    exact⟨u,j1,j2,aw.KG gi hobj j3 (hrefs id o1 h1 i j x hx)⟩
 ·intro k k' o1 o2 b base bp h1 h2 h3 h4 h5
  by_cases hk:k=h <;> by_cases tk:k'=h
  ·rw[hk,tk]
  ·subst hk
   rw[gh]at h4
   rw[kR k' tk]at h2
   rw[go k' o2 tk h2]at h5
   have:=hI.inj _ _ _ _ _ _ _ xf (hold k' o2 h2) SZ h4 h5
   have:=fx h2
   omega
  ·subst tk
   rw[gh]at h5
   rw[kR k hk]at h1
   rw[go k o1 hk h1]at h4
   have:=hI.inj _ _ _ _ _ _ _ (hold k o1 h1) xf h3 h4 h5
   have:=fx h1
   omega
  ·rw[kR k hk]at h1
   rw[kR k' tk]at h2
   rw[go k o1 hk h1]at h4
   rw[go k' o2 tk h2]at h5
   exact hI.inj _ _ _ _ _ _ _ (hold k o1 h1) (hold k' o2 h2) h3 h4 h5
 ·intro k o1 b base h1 h2
  by_cases hk:k=h
  ·subst hk
   rw[gh]at h2
   exact hI.apart _ _ _ _ xf h2
  ·rw[kR k hk]at h1
   rw[go k o1 hk h1]at h2
   exact hI.apart _ _ _ _ (hold k o1 h1) h2
 ·intro lo n u hu
  cases hu with|so o1 h1 h2 h3 h4=>?_
  rw[xf]at h1;cases h1
  refine .so _ wX (Nat.le_refl _) h3 fun _=>?_
  have:=h4 rfl
  unfold vu at this ⊢
  rw[gh]
  exact this
theorem nG {σ0 σ1:Gh}{s:List Obj}{w0 w1:World}{o ob:Obj}{h:Nat} (Us:Inv σ0 s w0) (hE:aA σ0 s w0 σ1 (s++[o]) w1) (hI:Inv σ1 (s++[o]) w1) (hh:s[h]?=some ob) (SZ:o.live=true)
  (hd:∀(i j:Nat) (x:V),(o.au[i]?.bind (·[j]?))=some x->ah 0 x=true) :
  aA σ0 s w0 (pG σ1 h s.length) (s.set h ⟨ob.g+1,true,o.sz,o.au⟩) w1/\Inv (pG σ1 h s.length) (s.set h ⟨ob.g+1,true,o.sz,o.au⟩) w1 /\
   ∀lo n u,aw σ1 (s++[o]) w1 (.so s.length o.g lo n) u->aw (pG σ1 h s.length) (s.set h ⟨ob.g+1,true,o.sz,o.au⟩) w1 (.so h (ob.g+1) lo n) u:=yC Us hE hI hh SZ fun i j x hx=>.inl (hd i j x hx)
theorem DS {P:Program}{t ty e:TypeId}{i:Kh}{id g lo n cl ch:Nat}{xv:V}{ua ux:Value}{σ:Gh}{s:List Obj}{w:World}{o:Obj}{ns:List (List V)} (hI:Inv σ s w) (ha:aw σ s w (.so id g lo n) ua) (hc:LO cl ch ua) (hx:aw σ s w xv ux) (sy:fV s xv=some ns)
  (hti:gm P t=some (e,i)) (ho:s[id]?=some o) (hg:o.g=g) (D4:o.sz=i.sz) (hz:∀e∈ns,e.length=i.sz) (cG:0<i.sz) (OF:0<ns.length) (hlo:lo+n<=o.au.length) (pX:o.live=true) (hr:n+ns.length<=cl) :
  ∃r σ' w',(Builtin.append_ #[t,t] ty #[ua,ux]).run P w=.ok r w'/\aA σ s w σ' (s.set id ⟨g,true,i.sz,o.au.take (lo+n)++ns++o.au.drop (lo+n+ns.length)⟩) w' /\
   Inv σ' (s.set id ⟨g,true,i.sz,o.au.take (lo+n)++ns++o.au.drop (lo+n+ns.length)⟩) w'/\aw σ' (s.set id ⟨g,true,i.sz,o.au.take (lo+n)++ns++o.au.drop (lo+n+ns.length)⟩) w' (.so id g lo (n+ns.length)) r:=by
 obtain⟨hu,hi⟩:=iZ hti
 obtain⟨ti,d,z,k1,k2,k3,k4,k5,k6,k7,k8,k9⟩:=fA hi
 have Ga:z.cells.size=i.sz:=by rw[<- Array.length_toList,k6,k7]
 obtain⟨ax,sB,rfl,zd,PR,news,n1,n2,n3,n4⟩:=g8 hI hx sy hz
 have rU:Src P ti.size t (.slice ax ns.length sB) ns.length news w:=by
  rw[k4]
  cases ax with
  |none =>
   have:ns=[]:=zd rfl
   subst this
   simp at OF
  |some ad=>exact Src.ofSlice w hu ad ns.length sB news n1 (n3 ad rfl) n2
 obtain⟨Mc,ON⟩:=mc hI
 have fv:fV s (.so id g lo n)=some ((o.au.drop lo).take n):=by simp [fV,ho,hg,hlo]
 have kY:((o.au.drop lo).take n).length=n:=by simp;omega
 have Rw:∀e∈o.au,e.length=i.sz:=by
  intro e wN
  rcases hI.content _ o ho with h0|⟨b,base,arr,E,h1,h2,h3,h4,h5⟩
  ·cases ha with|so o' gE zP JQ hk=>?_
   rw[ho]at gE;cases gE
   rcases hk hg with ⟨pk,_⟩|⟨b,bs,cp,E,arr,gX,hh,_⟩
   ·rw[h0.Cu pk]at wN;cases wN
   ·exact(h0.xr gX ⟨arr,E,hh⟩).elim
  ·rw[<- D4];exact h3 e wN
 have Nx:∀e∈(o.au.drop lo).take n,e.length=i.sz:=fun e he=>Rw e (List.mem_of_mem_drop (List.mem_of_mem_take he))
 obtain⟨base,cap,zr,a1,a2,jP,o1,o2,o3,o4⟩:=g8 hI ha fv Nx
 rw[kY]at zr a2
 cases ha with|so o' gE zP JQ hk=>?_
 rw[ho]at gE;cases gE
 have tk:=hk hg
 have zm:n+ns.length<=cap:=by have:=(hc _ _ _ zr).1;omega
 rcases tk with ⟨pk,⟨aa,tI⟩,rfl,rfl⟩|⟨b,bs,cp,E,arr,gX,hh,tI,tq,hfit⟩
 ·rw[zr]at tI
  simp only[Value.slice.injEq]at tI
  omega
 rw[zr]at tI
 simp only[Value.slice.injEq]at tI
 obtain⟨rfl,_,rfl⟩:=tI
 subst zr
 generalize i.sz=Z at *
 subst D4
 obtain⟨bb,ZH,YD,E2,q1,q2,q3,q4,q5⟩:∃b base arr E,σ id=some (b,base)/\w.heap[b]?=some (.cells arr E (0,0))/\(∀e∈o.au,e.length=o.sz)/\base+o.au.length*o.sz<=arr.size /\
   ∀i j x,(o.au[i]?.bind (·[j]?))=some x->∃u,arr[base+i*o.sz+j]?=some u/\u.oneCell'=true/\aw σ s w x u:=by
  rcases hI.content _ o ho with h0|h0
  ·exact(h0.xr gX ⟨arr,E,hh⟩).elim
  ·exact h0
 rw[gX]at q1
 simp only[Option.some.injEq,Prod.mk.injEq]at q1
 obtain⟨rfl,rfl⟩:=q1
 rw[hh]at q2
 simp only[Option.some.injEq,Go.Obj.cells.injEq]at q2
 obtain⟨rfl,rfl,_⟩:=q2
 generalize hS:bs+(lo+n)*o.sz=S at *
 have T8:bs+lo*o.sz+n*o.sz=S:=by rw[<- hS,Nat.add_mul];omega
 have hq:S+news.length<=arr.size:=by
  rw[n1,<- hS]
  have e1:(lo+cap)*o.sz=lo*o.sz+cap*o.sz:=Nat.add_mul _ _ _
  have e2:=Nat.mul_le_mul_right o.sz zm
  rw[Nat.add_mul]at e2
  rw[Nat.add_mul]
  omega
 have ct:=run_storeCells_at P b S E news 0 arr w hh (by omega) n2
 simp only[Nat.add_zero]at ct
 generalize mV:(arr.toList.take S++news++arr.toList.drop (S+news.length)).toArray=b9 at ct
 have gV:b9.size=arr.size:=by rw[<- mV];simp;omega
 have Wj:(arr.toList.take S).length=S:=by simp;omega
 have az:∀p,p<S->b9[p]?=arr[p]?:=by
  intro p hp
  rw[<- mV,List.getElem?_toArray,List.append_assoc,List.getElem?_append_left (by simp;omega),List.getElem?_take,if_pos hp,Array.getElem?_toList]
 have xD:∀q,q<news.length->b9[S+q]?=news[q]?:=by
  intro q TI
  rw[<- mV,List.getElem?_toArray,List.append_assoc,List.getElem?_append_right (by omega),Wj,List.getElem?_append_left (by omega)]
  congr 1
  omega
 have S2:∀p,S+news.length<=p->b9[p]?=arr[p]?:=by
  intro p hp
  rw[<- mV,List.getElem?_toArray,List.append_assoc,List.getElem?_append_right (by omega),Wj,List.getElem?_append_right (by omega),List.getElem?_drop,Array.getElem?_toList]
  congr 1
  omega
 have MC:∀e∈o.au.take (lo+n)++ns++o.au.drop (lo+n+ns.length),e.length=o.sz:=by
  intro e he
  rcases List.mem_append.1 he with he|he
  ·rcases List.mem_append.1 he with he|he
   ·exact Rw e (List.mem_of_mem_take he)
   ·exact hz e he
  ·exact Rw e (List.mem_of_mem_drop he)
 have PB:bs+(o.au.take (lo+n)++ns++o.au.drop (lo+n+ns.length)).length*o.sz<=arr.size:=by
  have hl:(o.au.take (lo+n)++ns++o.au.drop (lo+n+ns.length)).length=max (lo+n+ns.length) o.au.length:=by
   simp only[List.length_append,List.length_take,List.length_drop];omega
  rw[hl]
  rcases Nat.le_total (lo+n+ns.length) o.au.length with h'|h'
  ·rw[Nat.max_eq_right h'];exact q4
  ·rw[Nat.max_eq_left h']
   have e3:(lo+n+ns.length)*o.sz<=(lo+cap)*o.sz:=Nat.mul_le_mul_right _ (by omega)
   omega
 have:=lC (p:=some (b,bs)) (o':=⟨g,true,o.sz,o.au.take (lo+n)++ns++o.au.drop (lo+n+ns.length)⟩) (w':=w.setRow b b9) hI ho pX rfl rfl rfl (by simp)
  (fun b1 _ eF=>setRow_other w b b1 b9 (fun e=>eF bs (by rw[gX,e])))
  (fun b1 iC Pk E1 he O7=>by
   rw[gX]at he;cases he
   rw[hh]at O7;cases O7
   exact⟨b9,setRow_heap w b arr b9 E (0,0) hh,gV⟩)
  (fun b1 iC he hm=>by
   rw[gX]at he;cases he
   exact(Bp.notM ⟨arr,E,hh⟩ hm).elim)
  (by simp only;omega) (fun _=>⟨rfl,gX.symm⟩) (fun b1 iC he=>by cases he;exact .inl ⟨bs,gX⟩)
  (fun hE=>.inr ⟨b,bs,b9,E,rfl,setRow_heap w b arr b9 E (0,0) hh,MC,by rw[gV];exact PB,fun i' j y hy=>by
   simp only at hy ⊢
   obtain⟨el,vO,hj⟩:∃el,(o.au.take (lo+n)++ns++o.au.drop (lo+n+ns.length))[i']?=some el/\el[j]?=some y:=by
    cases TI:(o.au.take (lo+n)++ns++o.au.drop (lo+n+ns.length))[i']? with
    |none=>rw[TI]at hy;cases hy
    |some el=>rw[TI]at hy;exact⟨el,rfl,hy⟩
   have Tb:j<o.sz:=by
    have:=(List.getElem?_eq_some_iff.1 hj).1
    rwa [MC el (List.mem_of_getElem? vO)]at this
   have Mw:(o.au.take (lo+n)).length=lo+n:=by simp;omega
   by_cases c1:i'<lo+n
   ·rw[List.append_assoc,List.getElem?_append_left (by omega),List.getElem?_take,if_pos c1]at vO
    obtain⟨u,u1,u2,u3⟩:=q5 i' j y (by rw[vO];exact hj)
    have fP:(i'+1)*o.sz<=(lo+n)*o.sz:=Nat.mul_le_mul_right _ (by omega)
    rw[Nat.add_mul,Nat.one_mul]at fP
    exact⟨u,by rw[az _ (by omega)];exact u1,u2,u3.aO hE⟩
   ·by_cases c2:i'<lo+n+ns.length
    ·rw[List.append_assoc,List.getElem?_append_right (by omega),Mw,List.getElem?_append_left (by omega)]at vO
     obtain⟨c,d1,d2,d3⟩:=n4 (i' - (lo+n)) j y (by rw[vO];exact hj)
     have YG:=(List.getElem?_eq_some_iff.1 d1).1
     have PL:bs+i'*o.sz+j=S+((i' - (lo+n))*o.sz+j):=by
      rw[<- hS,Nat.add_assoc bs,<- Nat.add_assoc bs,Nat.add_assoc,Nat.add_assoc]
      have:i'*o.sz=(lo+n)*o.sz+(i' - (lo+n))*o.sz:=by rw[<- Nat.add_mul];congr 1;omega
      omega
     exact⟨c,by rw[PL,xD _ YG];exact d1,d2,d3.aO hE⟩
    ·rw[List.getElem?_append_right (by simp only[List.length_append,Mw];omega),List.getElem?_drop]at vO
     have XR:o.au[i']?=some el:=by
      rw[<- vO];congr 1;simp only[List.length_append,Mw];omega
     obtain⟨u,u1,u2,u3⟩:=q5 i' j y (by rw[XR];exact hj)
     have fP:(lo+n+ns.length)*o.sz<=i'*o.sz:=Nat.mul_le_mul_right _ (by omega)
     rw[Nat.add_mul]at fP
     exact⟨u,by rw[S2 _ (by rw[n1];omega)];exact u1,u2,u3.aO hE⟩⟩)
 have Vm:l8 σ id (some (b,bs)) id=some (b,bs):=bH _ _ _
 refine⟨.slice (some ⟨b,bs+lo*o.sz,none⟩) (n+ns.length) cap,_,w.setRow b b9,?_,this.1,this.2,?_⟩
 ·have j0:=rU.cells
  rw[k4]at j0
  rw[<- T8]at ct
  simp [Builtin.append_,run_underlying hu,sizeOf,typeInfo,k1,Builtin.lenOf,zm,j0,k4,Addr.add_lit,ct]
 ·exact .so ⟨g,true,o.sz,o.au.take (lo+n)++ns++o.au.drop (lo+n+ns.length)⟩ (by simp [(List.getElem?_eq_some_iff.1 ho).1]) (Nat.le_refl _) ⟨_,_,rfl⟩
   (fun _=>.inr ⟨b,bs,cap,E,b9,Vm,setRow_heap w b arr b9 E (0,0) hh,rfl,zm,by rw[gV];exact hfit⟩)
theorem Dy {P:Program}{t ty e:TypeId}{i:Kh}{id g lo n cl ch:Nat}{xv:V}{ua ux:Value}{σ:Gh}{s:List Obj}{w:World}{o:Obj}{ns:List (List V)} (hI:Inv σ s w) (ha:aw σ s w (.so id g lo n) ua) (hc:LO cl ch ua) (hx:aw σ s w xv ux) (sy:fV s xv=some ns)
  (hti:gm P t=some (e,i)) (ho:s[id]?=some o) (hg:o.g=g) (D4:o.sz=i.sz) (hz:∀e∈ns,e.length=i.sz) (cG:0<i.sz) (OF:0<ns.length) (hlo:lo+n<=o.au.length) (SQ:0<i.yW) (hb:(n+ns.length)*i.yW<=140737488355328) (hr:ch<n+ns.length) :
  ∃r σ' w',(Builtin.append_ #[t,t] ty #[ua,ux]).run P w=.ok r w'/\aA σ s w σ' (s++[⟨0,true,i.sz,(o.au.drop lo).take n++ns⟩]) w' /\
   Inv σ' (s++[⟨0,true,i.sz,(o.au.drop lo).take n++ns⟩]) w'/\aw σ' (s++[⟨0,true,i.sz,(o.au.drop lo).take n++ns⟩]) w' (.so s.length 0 0 (n+ns.length)) r:=by
 obtain⟨hu,hi⟩:=iZ hti
 obtain⟨ti,d,z,k1,k2,k3,k4,k5,k6,k7,k8,k9⟩:=fA hi
 have Ga:z.cells.size=i.sz:=by rw[<- Array.length_toList,k6,k7]
 obtain⟨ax,sB,rfl,zd,PR,news,n1,n2,n3,n4⟩:=g8 hI hx sy hz
 have rU:Src P ti.size t (.slice ax ns.length sB) ns.length news w:=by
  rw[k4]
  cases ax with
  |none =>
   have:ns=[]:=zd rfl
   subst this
   simp at OF
  |some ad=>exact Src.ofSlice w hu ad ns.length sB news n1 (n3 ad rfl) n2
 obtain⟨Mc,ON⟩:=mc hI
 have fv:fV s (.so id g lo n)=some ((o.au.drop lo).take n):=by simp [fV,ho,hg,hlo]
 have kY:((o.au.drop lo).take n).length=n:=by simp;omega
 have Rw:∀e∈o.au,e.length=i.sz:=by
  intro e wN
  rcases hI.content _ o ho with h0|⟨b,base,arr,E,h1,h2,h3,h4,h5⟩
  ·cases ha with|so o' gE zP JQ hk=>?_
   rw[ho]at gE;cases gE
   rcases hk hg with ⟨pk,_⟩|⟨b,bs,cp,E,arr,gX,hh,_⟩
   ·rw[h0.Cu pk]at wN;cases wN
   ·exact(h0.xr gX ⟨arr,E,hh⟩).elim
  ·rw[<- D4];exact h3 e wN
 have Nx:∀e∈(o.au.drop lo).take n,e.length=i.sz:=fun e he=>Rw e (List.mem_of_mem_drop (List.mem_of_mem_take he))
 obtain⟨base,cap,zr,a1,a2,jP,o1,o2,o3,o4⟩:=g8 hI ha fv Nx
 rw[kY]at zr a2
 cases ha with|so o' gE zP JQ hk=>?_
 rw[ho]at gE;cases gE
 have tk:=hk hg
 have xp:cap<n+ns.length:=by have:=(hc _ _ _ zr).2;omega
 have hold:(Builtin.firstCells ti.size n (.slice base n cap)).run P w.drew=.ok jP.toArray w.drew:=by
  rw[k4]
  cases base with
  |none =>
   have he:(o.au.drop lo).take n=[]:=a1 rfl
   rw[he]at o1 kY
   have fl:n=0:=by simpa using kY.symm
   have hn:jP=[]:=List.eq_nil_of_length_eq_zero (by simpa using o1)
   subst fl hn
   exact run_firstCells_none w.drew i.sz 0 0 cap
  |some ad=>exact run_firstCells_some w.drew i.sz n ad n cap jP (by rw[o1,kY]) (by simpa using o3 ad rfl)
 have hle:n+ns.length<=(n+ns.length)*i.yW:=Nat.le_mul_of_pos_right _ SQ
 have dI:=run_append_grow_src (P:=P) w t t ty e ti z hu k1 k3 base n cap jP hold (.slice ax ns.length sB) ns.length news rU xp (by omega) (growslice_fits xp (by rw[k5];exact hb))
 have ib:=grownCap_ge w (n+ns.length) cap e
 subst zr
 generalize grownCap w (n+ns.length) cap e=lY at *
 have fo:((jP++news).toArray++Builtin.zeroCells z.cells (lY - (n+ns.length))).size=lY*i.sz:=by
  simp only[Array.size_append,List.size_toArray,size_zeroCells,List.length_append,o1,n1,Ga,kY]
  rw[<- Nat.add_mul,<- Nat.add_mul]
  congr 1
  omega
 have fm:∀(i' j:Nat) (y:V),(((o.au.drop lo).take n++ns)[i']?.bind (·[j]?))=some y->∃c,((jP++news).toArray++Builtin.zeroCells z.cells (lY - (n+ns.length)))[i'*i.sz+j]?=some c/\c.oneCell'=true/\aw σ s w y c:=by
  intro i' j y hy
  obtain⟨c,c1,c2,c3⟩:=qe o1 o4 n4 i' j y hy
  exact⟨c,A0 c1,c2,c3⟩
 generalize (jP++news).toArray++Builtin.zeroCells z.cells (lY - (n+ns.length))=arr at *
 have:=oH (au:=(o.au.drop lo).take n++ns) (sz:=i.sz) (arr:=arr) ON e (fun e he=>(List.mem_append.1 he).elim (Nx e) (hz e)) (by rw[fo,List.length_append,kY];exact Nat.mul_le_mul_right _ ib)
  (fun i' j y hy=>let ⟨c,c1,c2,c3⟩:=fm i' j y hy;⟨c,c1,c2,c3.aO Mc⟩)
 refine⟨_,_,_,dI,Mc.trans this.1,this.2,?_⟩
 exact .so ⟨0,true,i.sz,(o.au.drop lo).take n++ns⟩ (by simp) (Nat.le_refl _) ⟨_,_,rfl⟩ (fun _=>.inr ⟨w.heap.size,0,lY,e,arr,bH _ _ _,heap_alloc_new w.drew _,by simp,ib,by simp [fo]⟩)
end Go.VL
