/- A part of the proof (Vo Vp Vpa Vgr). -/
import Derived.Test.YtjjfioalgbecmaaGreatOQ9
set_option linter.unusedSimpArgs false
set_option linter.unusedVariables false
set_option maxRecDepth 100000
set_option maxHeartbeats 80000000
namespace Go.VL
variable{c:Prop}{X:(V->Prop)->Prop}{s:List Obj}
def j0 (X:(V->Prop)->Prop):Prop:=∀K,X K->∃v,X (λv'=>v'=v)/\K v
def qd (X:(V->List Obj->Prop)->Prop):Prop:=∀K,X K->∃v s,X (λv' s'=>v'=v/\s'=s)/\K v s
theorem uv {agg n cs}:j0 (pQ agg n cs):=by
 intro K h;unfold pQ at *;cases agg with
 |true=>exact⟨_,⟨h.1,rfl⟩,h.2⟩
 |false =>
  cases cs with
  |nil=>exact h.2.elim
  |cons v l=>exact⟨v,⟨h.1,rfl⟩,h.2⟩
theorem mL {s id g}{F:Obj->(V->Prop)->Prop} (hF:∀o,j0 (F o)):j0 λK=>tE s id g λo=>F o K:=by
 intro K h;unfold tE at *;cases hs:s[id]? with
 |none=>rw[hs]at h;exact h.elim
 |some o =>
  simp only[hs]at h ⊢;obtain⟨v,h1,h2⟩:=hF o K h.2;exact⟨v,⟨h.1,h1⟩,h2⟩
theorem DD {s id g}{F:Obj->(V->List Obj->Prop)->Prop} (hF:∀o,qd (F o)):qd λK=>tE s id g λo=>F o K:=by
 intro K h;unfold tE at *;cases hs:s[id]? with
 |none=>rw[hs]at h;exact h.elim
 |some o =>
  simp only[hs]at h ⊢;obtain⟨v,s1,h1,h2⟩:=hF o K h.2;exact⟨v,s1,⟨h.1,h1⟩,h2⟩
theorem bj {v:V}:j0 λK=>K v:=λ_ h=>⟨v,rfl,h⟩
theorem aG:j0 λ_=>False:=λ_ h=>h.elim
theorem bS (h:j0 X):j0 λK=>c/\X K:=λK hk =>
 let ⟨v,h1,h2⟩:=h K hk.2
 ⟨v,⟨hk.1,h1⟩,h2⟩
theorem cX {v:V}:qd λK=>K v s:=λ_ h=>⟨v,s,⟨rfl,rfl⟩,h⟩
theorem aW:qd λ_=>False:=λ_ h=>h.elim
theorem cH{X:(V->List Obj->Prop)->Prop} (h:qd X):qd λK=>c/\X K:=λK hk =>
 let ⟨v,s,h1,h2⟩:=h K hk.2
 ⟨v,s,⟨hk.1,h1⟩,h2⟩
theorem fC (h:j0 X):qd λK=>X λv=>K v s:=by intro K hk;obtain⟨v,h1,h2⟩:=h _ hk;refine⟨v,s,?_,h2⟩;simpa using h1
theorem Mf {P t s p}:j0 (lT P t s p):=by
 unfold lT;cases bQ P t with
 |none=>exact aG
 |some i =>
  simp only;cases p with
  |d x =>
   cases x with
   |el cs=>exact uv
   |_=>exact aG
  |rf id g k off =>
   simp only;cases s[id]? with
   |none=>exact aG
   |some o =>
    simp only;cases o.au[k]? with
    |none=>exact bS aG
    |some cs=>exact bS uv
  |pp id g k off b a =>
   simp only;cases s[id]? with
   |none=>exact aG
   |some o =>
    simp only;cases o.au[k]? with
    |none=>exact bS aG
    |some cs=>exact bS uv
  |bx v=>exact uv
  |_=>exact aG
theorem Br {P t s p f}:j0 (eR P t s p f):=by
 unfold eR;cases aI P t f with
 |none=>exact aG
 |some i =>
  simp only;split
  ·exact bj
  ·exact mL λ_=>bj
  ·exact mL λ_=>bj
  ·exact bj
  ·exact aG
theorem Ou {au i z}:j0 (XF au i z):=by
 unfold XF;cases au[i]? with
 |none=>exact aG
 |some cs=>exact bS bj
theorem Bp {P t s x i}:j0 (dG P t s x i):=by
 unfold dG;split
 ·split
  ·split
   ·exact bS (bS Ou)
   ·exact bS (bS Ou)
   ·exact mL λ_=>bS (bS (bS bj))
   ·exact aG
  ·split
   ·split
    ·exact bS (bS bj)
    ·exact mL λ_=>bS (bS bj)
    ·exact aG
   ·exact aG
 ·exact aG
theorem Ce {P t cs off}:j0 (sV P t cs off):=by
 unfold sV;cases bQ P t with
 |none=>exact aG
 |some i =>
  simp only;cases i.agg with
  |true=>exact bS bj
  |false =>
   simp only;cases cs[off]? with
   |none=>exact aG
   |some v=>exact bj
theorem LJ {P t x f}:j0 (mK P t x f):=by
 unfold mK;split
 ·split
  ·split
   ·exact Ce
   ·exact aG
  ·exact aG
 ·exact aG
theorem Ku {P t x i}:j0 (ks P t x i):=by
 unfold ks;split
 ·split
  ·split
   ·split
    ·exact bS (bS Ce)
    ·exact aG
   ·exact aG
  ·exact aG
 ·exact aG
theorem Kk {P t parts}:j0 (pI P t parts):=by
 unfold pI;split
 ·exact aG
 ·split
  ·split
   ·exact bj
   ·exact aG
  ·split
   ·split
    ·exact bj
    ·exact aG
   ·exact aG
theorem LG {P t s}:qd (pF P t s):=by
 unfold pF;split
 ·exact aW
 ·exact cX
theorem PK {s x}:qd (AX s x):=by
 unfold AX;split
 ·exact aW
 ·exact cX
theorem y9 {P t len parts s}:qd (eN P t len parts s):=by
 unfold eN;split
 ·exact aW
 ·refine cH ?_;split
  ·exact aW
  ·split
   ·exact cX
   ·exact cX
theorem Bz {P t l c s}:qd (fY P t l c s):=by
 unfold fY;split
 ·exact aW
 ·split
  ·exact cH cX
  ·exact aW
theorem Ik {P t a x s}:qd (dt P t a x s):=by
 unfold dt;split
 ·exact aW
 ·split
  ·exact aW
  ·refine cH ?_;split
   ·split
    ·exact cH cX
    ·exact cH cX
   ·exact DD λ_=>cH cX
   ·exact aW
theorem EU {P t t' a x s}:qd (kN P t t' a x s):=by
 unfold kN;split
 ·exact aW
 ·split
  ·split
   ·exact cH cX
   ·exact aW
  ·exact aW
theorem QN {P t x}:j0 (LF P t x):=by
 unfold LF;split
 ·split
  ·exact bj
  ·exact aG
 ·exact aG
theorem EO {P t x lo hi mx}:j0 (me P t x lo hi mx):=by
 unfold me;split
 ·exact aG
 ·split
  ·exact bS bj
  ·exact aG
theorem Jc {P t x lo hi mx s}:j0 (ly P t x lo hi mx s):=by
 unfold ly;split
 ·exact EO
 ·split
  ·exact aG
  ·split
   ·refine bS ?_;split
    ·exact bS bj
    ·exact bS bj
    ·exact bS (bS (bS bj))
    ·refine mL λ_=>bS ?_;split
     ·exact bj
     ·exact bj
    ·exact aG
   ·exact aG
theorem Q9 {P t x s}:j0 (lK P t x s):=by
 unfold lK;split
 ·split
  ·exact bj
  ·exact bj
  ·exact bj
  ·exact aG
 ·split
  ·exact bj
  ·exact aG
 ·exact aG
theorem QH {op k a b}:j0 (eX op k a b):=by unfold eX;split <;> first|exact bj|exact bS bj|exact aG|(split <;> first|exact bj|exact bS bj|exact aG)
theorem KS {P op t xs ys}:j0 (jH P op t xs ys):=by
 unfold jH;split
 ·refine bS ?_;split <;> first|exact bj|exact aG
 ·refine bS ?_;split <;> first|exact bj|exact aG
 ·exact aG
theorem Nj {P op t s x y}:j0 (dp P op t s x y):=by unfold dp;split <;> first|exact KS|exact bS QH|exact aG|(refine bS ?_;split <;> first|exact bj|exact aG)|(refine bS (bS ?_);split <;> first|exact bj|exact aG)|(split <;> first|exact bj|exact aG)
theorem Qq {P op t s x y}:j0 (pP P op t s x y):=by
 unfold pP;split
 ·unfold rQ;split
  ·exact bS bj
  ·exact aG
 ·exact Nj
theorem J9 {P op t s x}:j0 (ej P op t s x):=by unfold ej;refine bS (bS ?_);split <;> first|exact bj|exact aG|exact mL λ_=>bj
theorem Tf {op x}:j0 (Bv op x):=by unfold Bv;split <;> first|exact bj|exact aG
theorem Mh {P a b x}:j0 (pX P a b x):=by
 unfold pX;split
 ·split <;> first|exact bj|exact aG
 ·exact aG
theorem rF {mn}:∀(ys:List V) (acc:V),j0 (fe mn acc ys)
 |[],acc=>bj
 |y::ys,acc=>by
  intro K h;unfold fe at h;split at h
  ·obtain⟨v,h1,h2⟩:=rF ys _ K h;exact⟨v,by unfold fe;exact h1,h2⟩
  ·exact h.elim
theorem Qv {s x}:j0 (jP s x):=by
 unfold jP;split
 ·exact bj
 ·exact mL λ_=>bj
 ·exact mL λ_=>bj
 ·exact bj
 ·exact bj
 ·exact aG
theorem PX {x i}:j0 (yh x i):=by
 unfold yh;split
 ·split
  ·exact bj
  ·exact aG
 ·exact aG
theorem Kz {x a b s}:qd λK=>gF x (K a s) (K b s):=by
 unfold gF;split
 ·rename_i b';cases b' with
  |true=>intro K h;exact⟨a,s,ak,h.1 rfl⟩
  |false=>intro K h;exact⟨b,s,ak,h.2 rfl⟩
 ·exact aW
theorem Lk {P t s p x}:qd λK=>iF P t s p x λs'=>K .un s':=by
 unfold iF;split
 ·exact aW
 ·split
  ·split
   ·exact aW
   ·refine cH (cH ?_);split
    ·exact aW
    ·split
     ·exact aW
     ·exact cH (cH cX)
  ·split
   ·exact aW
   ·refine cH (cH ?_);split
    ·exact aW
    ·split
     ·exact aW
     ·exact cH (cH cX)
  ·exact aW
theorem Nl {P t a x s}:qd (yZ P t a x s):=by
 unfold yZ;split
 ·exact aW
 ·split
  ·exact aW
  ·refine cH ?_;split
   ·unfold tE;split
    ·exact aW
    ·exact cH (cH cX)
   ·exact aW
theorem IS {P t x s}:qd (nr P t x s):=by
 unfold nr;split
 ·exact aW
 ·split
  ·unfold tE;split
   ·exact aW
   ·exact cH (cH cX)
  ·exact cX
  ·exact aW
theorem Jr {P t s m k}:j0 (pE P t s m k):=by
 unfold pE;split
 ·exact aG
 ·split
  ·split
   ·refine mL λ_=>bS ?_;split
    ·exact aG
    ·exact bj
   ·exact aG
  ·exact aG
theorem M4 {P t s m k x}:qd λK=>CA P t s m k x λs'=>K .un s':=by
 unfold CA;split
 ·exact aW
 ·split
  ·split
   ·split
    ·refine DD λ_=>cH ?_;split
     ·exact aW
     ·exact cH cX
    ·exact aW
   ·exact aW
  ·exact aW
theorem HQ {P t s m k}:j0 (jt P t s m k):=by
 unfold jt;split
 ·exact Jr
 ·split
  ·split
   ·refine mL λ_=>bS ?_;split
    ·exact aG
    ·exact bj
   ·exact aG
  ·exact aG
theorem FK {P t s m k x}:qd λK=>vY P t s m k x λs'=>K .un s':=by
 unfold vY;split
 ·exact M4
 ·split
  ·split
   ·split
    ·refine DD λ_=>cH ?_;split
     ·exact aW
     ·exact cH cX
    ·exact aW
   ·exact aW
  ·exact aW
theorem Fp {P t r s}:qd (nN P t r s):=cH cX
def MI (o:Oper):Bool :=
 match o.op with
 |.call c=>match c.callee with
  |.value _=>true
  |_=>false
 |_=>false
theorem Mw {P o e s} (hc:MI o=false):qd (cz P o e s):=by
 obtain⟨dst,op,ty,pos,after,guard⟩:=o;unfold cz;cases op <;> simp only
 case move=>exact cX
 case assign=>exact cX
 case pick=>exact Kz
 case alloc=>exact LG
 case box=>exact PK
 case build=>exact fC Kk
 case buildSlice=>exact y9
 case load=>exact fC Mf
 case store=>exact Lk
 case nilCheck=>exact fC Qv
 case binOp op t x y t' =>
  cases R8 y with
  |true=>exact fC J9
  |false=>exact fC Qq
 case unOp=>exact fC Tf
 case convert=>exact fC Mh
 case makeFunc=>exact cX
 case makeSlice=>exact Bz
 case slice=>exact fC Jc
 case fieldAddr=>exact fC Br
 case field=>exact fC LJ
 case indexAddr=>exact fC Bp
 case index=>exact fC Ku
 case extract=>exact fC PX
 case makeMap=>exact Fp
 case lookup t x i ok =>
  cases ok with
  |true=>exact aW
  |false=>exact fC HQ
 case mapUpdate=>exact FK
 case insert=>exact FK
 case call c =>
  unfold gZ;simp only[MI]at hc;split
  ·rename_i h;rw[h]at hc;cases hc
  ·rename_i h;rw[h]at hc;cases hc
  ·split
   ·exact fC Q9
   ·split
    ·exact Ik
    ·exact EU
   ·exact cH Nl
   ·exact IS
   ·exact fC (rF _ _)
   ·exact fC (rF _ _)
   ·exact fC QN
   ·exact aW
  ·exact aW
 all_goals exact aW
def fN:V->List Nat
 |.rf id _ _ _=>[id]
 |.pp id _ _ _ _ _=>[id]
 |.so id _ _ _=>[id]
 |.mp id _=>[id]
 |_=>[]
def r9 (e:Env) (o:Oper):List Nat :=
 match o.op with
 |.move _|.assign _|.pick ..|.build ..|.buildSlice ..|.makeFunc ..=>[]
 |.load _ a=>fN (vQ (e 0) (ev e a))
 |.call ⟨.builtin .len,_,_⟩=>[]
 |_=>o.op.operands.toList.flatMap λx=>fN (ev e x)
def QV (o:Oper):Bool :=
 match o.op with
 |.move _|.assign _|.pick ..|.build ..|.buildSlice ..|.load ..|.nilCheck _|.binOp ..|.unOp ..|.convert ..|.makeFunc ..|.slice ..|.fieldAddr ..|.field ..|.indexAddr ..|.index ..|.extract ..|.lookup ..=>true
 |.call c=>match c.callee with
  |.builtin .len=>true
  |.builtin .min=>true
  |.builtin .max=>true
  |.builtin .append=>true
  |_=>false
 |_=>false
section
variable {P:Program}{s s':List Obj}
variable{id:Nat}{p:V}{t:TypeId}{op:BinOp}{x:V}{v:V}
theorem fO {g:Nat} (h:s'[id]?=s[id]?) (K:Obj->Prop):tE s id g K=tE s' id g K:=by unfold tE;rw[h]
theorem IF (h:∀id∈fN p,s'[id]?=s[id]?) (K:V->Prop):lT P t s p K=lT P t s' p K:=by
 unfold lT;cases bQ P t with
 |none=>rfl
 |some i =>
  cases p with
  |rf id g k off=>simp only[h id (by simp [fN])]
  |pp id g k off b a=>simp only[h id (by simp [fN])]
  |d x=>cases x <;> rfl
  |_=>rfl
theorem yN{f:Nat} (h:∀id∈fN p,s'[id]?=s[id]?) (K:V->Prop):eR P t s p f K=eR P t s' p f K:=by
 unfold eR;cases aI P t f with
 |none=>rfl
 |some d =>
  cases p with
  |rf id g k off=>simp only[fO (h id (by simp [fN]))]
  |pp id g k off b a=>simp only[fO (h id (by simp [fN]))]
  |d x=>simp only;split <;> first|rfl|(rename_i he;cases he)
  |_=>rfl
theorem yR{i:V} (h:∀id∈fN p,s'[id]?=s[id]?) (K:V->Prop):dG P t s p i K=dG P t s' p i K:=by
 unfold dG;split
 ·split
  ·cases p with
   |so id g lo n=>simp only[fO (h id (by simp [fN]))]
   |d x=>cases x <;> rfl
   |_=>rfl
  ·split
   ·cases p with
    |rf id g k off=>simp only[fO (h id (by simp [fN]))]
    |d x=>cases x <;> rfl
    |_=>rfl
   ·rfl
 ·rfl
theorem Lp (K:V->Prop):lK P t p s K=lK P t p s' K:=by
 unfold lK;split
 ·cases p with
  |so id g lo n=>rfl
  |d x=>cases x <;> rfl
  |_=>rfl
 ·rfl
 ·rfl
theorem Fj{k:V} (h:∀id∈fN p,s'[id]?=s[id]?) (K:V->Prop):pE P t s p k K=pE P t s' p k K:=by
 unfold pE;cases CO P t with
 |none=>rfl
 |some ik =>
  cases p with
  |mp id g=>simp only[fO (h id (by simp [fN]))]
  |_=>rfl
theorem DB{k:V} (h:∀id∈fN p,s'[id]?=s[id]?) (K:V->Prop):jt P t s p k K=jt P t s' p k K:=by
 unfold jt;cases JS P t with
 |none=>exact Fj h K
 |some ik =>
  cases p with
  |mp id g=>simp only[fO (h id (by simp [fN]))]
  |_=>rfl
theorem JR (h:∀id∈fN p,s'[id]?=s[id]?) (K:V->Prop):jP s p K=jP s' p K:=by
 cases p with
 |rf id g k off=>simp only[jP,fO (h id (by simp [fN]))]
 |pp id g k off b a=>simp only[jP,fO (h id (by simp [fN]))]
 |d x=>unfold jP;split <;> first|rfl|(rename_i he;cases he)
 |cl f a b=>cases f <;> rfl
 |_=>rfl
theorem DT (h:∀id∈fN p,s'[id]?=s[id]?):il s p=il s' p:=by
 unfold il;cases p with
 |so id g lo n=>simp only[h id (by simp [fN])]
 |d x=>cases x <;> rfl
 |_=>rfl
theorem FE{lo hi mx:Option V} (h:∀id∈fN p,s'[id]?=s[id]?) (K:V->Prop):ly P t p lo hi mx s K=ly P t p lo hi mx s' K:=by
 unfold ly;rw[DT h];split
 ·rfl
 ·split
  ·rfl
  ·split
   ·congr 1;cases mx with
    |none =>
     cases p with
     |so id g lo n=>simp only[fO (h id (by simp [fN]))]
     |d x=>cases x <;> rfl
     |_=>rfl
    |some m =>
     cases p with
     |d x=>cases x <;> rfl
     |_=>rfl
   ·rfl
theorem Fw (h:∀id∈fN p,s'[id]?=s[id]?) (K:V->Prop):ej P op t s p K=ej P op t s' p K:=by
 unfold ej;cases p with
 |so id g lo n=>cases n <;> simp only[fO (h id (by simp [fN]))]
 |d x=>cases x with
  |sl au=>cases au <;> rfl
  |_=>rfl
 |fu au=>cases au <;> rfl
 |_=>rfl
theorem AW (h:∀id∈fN p,s'[id]?=s[id]?):pq s p=pq s' p:=by
 unfold pq;cases p with
 |rf id g k off=>simp only[fO (h id (by simp [fN]))]
 |pp id g k off b a=>simp only[fO (h id (by simp [fN]))]
 |d x=>cases x <;> rfl
 |_=>rfl
theorem HW{y:V} (h:∀id∈fN x,s'[id]?=s[id]?) (h':∀id∈fN y,s'[id]?=s[id]?) (K:V->Prop):dp P op t s x y K=dp P op t s' x y K:=by unfold dp;split <;> simp only[AW h,AW h']
theorem LA{y:V} (h:∀id∈fN x,s'[id]?=s[id]?) (h':∀id∈fN y,s'[id]?=s[id]?) (K:V->Prop):pP P op t s x y K=pP P op t s' x y K:=by
 unfold pP;split
 ·rfl
 ·exact HW h h' K
theorem YO {s:List Obj}{o n:Obj} (ho:s[id]?=some o) (hn:n.g≠o.g):s.set id n≠s:=by intro h;have h1:=List.getElem?_set_self (a:=n) (List.getElem?_eq_some_iff.1 ho).1;rw[h,ho]at h1;cases h1;exact hn rfl
theorem Ld{a:V} (h:∀id∈fN a,s'[id]?=s[id]?) (h':∀id∈fN x,s'[id]?=s[id]?) (hw:dt P t a x s λv' s1=>v'=v/\s1=s):dt P t a x s' λv' s1=>v'=v/\s1=s':=by
 unfold dt at hw ⊢;rw[DT h']at hw;split at hw
 ·exact hw.elim
 rename_i i hi;split at hw
 ·exact hw.elim
 rename_i ns uu;refine⟨hw.1,?_⟩;have hw:=hw.2;split at hw
 ·split at hw
  ·exact⟨hw.1,hw.2.1,rfl⟩
  ·exact absurd (congrArg List.length hw.2.2) ak
 ·exfalso;obtain⟨o,ho,hg,⟨_,_,hs⟩⟩:=dS hw;exact YO ho n6 hs
 ·exact hw.elim
theorem Fu {t':TypeId}{a:V} (hw:kN P t t' a x s λv' s1=>v'=v/\s1=s):False:=by
 unfold kN at hw;split at hw
 ·exact hw
 ·split at hw
  ·split at hw
   ·exact absurd (congrArg List.length hw.2.2) ak
   ·exact hw
  ·exact hw
theorem JO {o:Oper}{e:Env} (hr:QV o=true) (h:∀id∈r9 e o,s'[id]?=s[id]?) (hw:cz P o e s λv' s1=>v'=v/\s1=s):cz P o e s' λv' s1=>v'=v/\s1=s':=by
 obtain⟨dst,op,ty,pos,after,guard⟩:=o;have rd:(r9 e ⟨dst,op,ty,pos,after,guard⟩=op.operands.toList.flatMap λx=>fN (ev e x))->∀x∈op.operands.toList,∀id∈fN (ev e x),s'[id]?=s[id]?:=λhe x hx id dc=>h id (by rw[he];exact List.mem_flatMap.2 ⟨x,hx,dc⟩);unfold cz at hw ⊢;cases op <;> simp only[QV,ajY]at hr <;> simp only at hw ⊢
 case move=>exact hw
 case assign=>exact hw
 case pick=>simpa using hw
 case build=>exact hw
 case buildSlice =>
  unfold eN at hw ⊢;split at hw
  ·exact hw.elim
  ·refine⟨hw.1,?_⟩;have hw:=hw.2;split at hw
   ·exact hw.elim
   ·split at hw
    ·exact⟨hw.1,rfl⟩
    ·exact absurd (congrArg List.length hw.2) ak
 case load t a=>rw[IF (λid dc=>h id (by simpa [r9]using dc))]at hw;exact hw
 case nilCheck a=>rw[JR (rd rfl a (by simp [Op.operands]))]at hw;exact hw
 case binOp op t x y t' =>
  cases hn:R8 y with
  |true=>rw[hn]at hw;simp only[cond_true]at hw ⊢;rw[Fw (rd rfl x (by simp [Op.operands]))]at hw;exact hw
  |false=>rw[hn]at hw;simp only[cond_false]at hw ⊢;rw[LA (rd rfl x (by simp [Op.operands])) (rd rfl y (by simp [Op.operands]))]at hw;exact hw
 case unOp=>exact hw
 case convert=>exact hw
 case makeFunc=>exact hw
 case slice t x lo hi mx=>rw[FE (rd rfl x (by simp [Op.operands]))]at hw;exact hw
 case fieldAddr t x f=>rw[yN (rd rfl x (by simp [Op.operands]))]at hw;exact hw
 case field=>exact hw
 case indexAddr t x i=>rw[yR (rd rfl x (by simp [Op.operands]))]at hw;exact hw
 case index=>exact hw
 case extract=>exact hw
 case lookup t x i ok =>
  cases ok with
  |true=>exact hw.elim
  |false=>simp only[cond_false]at hw ⊢;rw[DB (rd rfl x (by simp [Op.operands]))]at hw;exact hw
 case call c =>
  obtain⟨callee,args,argTypes⟩:=c;cases callee with
  |value f=>cases hr
  |invoke r m=>cases hr
  |builtin b =>
   unfold gZ at hw ⊢;simp only at hw ⊢ hr;split at hw
   ·rename_i x t ha ht;rw[Lp (s':=s')]at hw;exact hw
   ·rename_i a x t t' ha ht;split at hw
    ·rename_i htt;rw[be htt];exact Ld (rd rfl a (by simp [Op.operands,Call.operands,ha])) (rd rfl x (by simp [Op.operands,Call.operands,ha])) hw
    ·exact(Fu hw).elim
   ·first|(cases hr;done)|(simp at hr;done)
   ·first|(cases hr;done)|(simp at hr;done)
   ·exact hw
   ·exact hw
   ·first|exact hw|(cases hr;done)|(simp at hr;done)
   ·exact hw.elim
end
variable{o:Obj}{id:Nat}{kX:Nat}{s:List Obj}{σ:Gh}{w:World}{P:Program}{u:Value}{x:V}{e:Env}{L:Nat}{n:Nat}{w0:World}{σ0:Gh}{w1:World}{ob:Obj}{σ1:Gh}{ux:Value}{cl:Nat}{ua:Value}{lo:Nat}{ns:List (List V)}{ty:TypeId}{t:TypeId}{ch:Nat}
def ck (s:List Obj) (id:Nat):List Obj :=
 match s[id]? with
 |some o=>s.set id { o with live:=false }
 |none=>s
def br (s:List Obj):List Nat->List Obj
 |[]=>s
 |id::ids=>br (ck s id) ids
theorem jK (h:(ck s id)[kX]?=some o):∃o',s[kX]?=some o'/\o.g=o'.g/\o.sz=o'.sz/\o.au=o'.au/\(o.live=true->o'.live=true):=by
 unfold ck at h;split at h
 ·rename_i o0 ho0;rw[List.getElem?_set]at h;split at h
  ·rename_i he;subst he;split at h
   ·simp only[ajU]at h;subst h;exact⟨o0,ho0,rfl,rfl,rfl,λh=>by cases h⟩
   ·cases h
  ·exact⟨o,h,rfl,rfl,rfl,λh=>h⟩
 ·exact⟨o,h,rfl,rfl,rfl,λh=>h⟩
theorem TK (h:s[kX]?=some o):∃o',(ck s id)[kX]?=some o'/\o'.g=o.g/\o'.sz=o.sz:=by
 unfold ck;split
 ·rename_i o0 ho0;rw[List.getElem?_set];split
  ·rename_i he;subst he;rw[ho0]at h;cases h;rw[be (List.getElem?_eq_some_iff.1 ho0).1];exact⟨_,rfl,rfl,rfl⟩
  ·exact⟨o,h,rfl,rfl⟩
 ·exact⟨o,h,rfl,rfl⟩
theorem tJ (hI:Inv σ s w) (id:Nat):aC σ s w σ (ck s id) w/\Inv σ (ck s id) w:=by
 have own:∀b,Own σ (ck s id) b->Own σ s b:=by
  rintro b (h|⟨kX,o,base,h1,h2,h3⟩)
  ·exact .inl h
  ·obtain⟨o',k1,_,_,_,k5⟩:=jK h1;exact .inr ⟨kX,o',base,k1,k5 h2,h3⟩
 have hE:aC σ s w σ (ck s id) w:=⟨rfl,rfl,rfl,ajZ _,λ_ _ _=>rfl,λ_ arr _ _ h=>⟨arr,h,rfl⟩,λ_ _ h=>h,λb h=>.inl (own b h),
  λkX o ho=>let ⟨o',k1,k2,k3⟩:=TK (id:=id) ho;⟨o',k1,ae,λ_=>⟨k3,rfl⟩⟩,rfl,λ_ _ _=>rfl⟩
 refine⟨hE,⟨λkX o ho=>?_,λi i' o o' b base bN h1 h2 h3 h4 h5=>?_,hI.low,λi o b base h1 h2=>?_⟩⟩
 ·obtain⟨o',k1,_,k3,k4,_⟩:=jK ho;rw[k4,k3];rcases hI.content kX o' k1 with h|⟨b,base,arr,E,h1,h2,h3,h4,h5⟩
  ·exact .inl (h.congr k4)
  ·exact .inr ⟨b,base,arr,E,h1,h2,h3,h4,λi j x hx=>let ⟨u,g1,g2,g3⟩:=h5 i j x hx;⟨u,g1,g2,g3.aR hE⟩⟩
 ·obtain⟨p,k1,_,_,_,k5⟩:=jK h1;obtain⟨p',l1,_⟩:=jK h2;exact hI.inj i i' p p' b base bN k1 l1 (k5 h3) h4 h5
 ·obtain⟨p,k1,_⟩:=jK h1;exact hI.apart i p b base k1 h2
theorem oE {σ:Gh}{w:World}:∀(ids:List Nat) (s:List Obj),Inv σ s w->aC σ s w σ (br s ids) w/\Inv σ (br s ids) w
 |[],s,hI=>⟨aC.refl _ _ _,hI⟩
 |id::ids,s,hI=>by obtain⟨h1,h2⟩:=tJ hI id;obtain⟨k1,k2⟩:=oE ids (ck s id) h2;exact⟨h1.trans k1,k2⟩
theorem bE{f:FuncId}{args cargs:List V}{K:V->List Obj->Prop} (ids:List Nat) (hc:bc.go (br s ids).length (br s ids) args=some cargs) (h:ar P f cargs (br s ids) K):ar P f args s K:=by
 refine⟨h.1,λσ w vals hI hl hv=>?_⟩;obtain⟨hE,fS⟩:=oE ids s hI;obtain⟨k1,k2⟩:=rb hc;refine(h.2 σ w vals fS ae λi x hx=>?_).mono λe w' ⟨u,v,σ',s',h1,h2,h3,h4,h5⟩=>⟨u,v,σ',s',h1,hE.trans h2,h3,h4,h5⟩
 obtain⟨y,hy,hf⟩:=k2 i x hx;have:=iO fS ((hv i y hy).aR hE) hf;rwa [akg]at this
def fp (lim:Nat) (s:List Obj) (x:V):V:=(bc lim s x).getD .any
def zS (lim:Nat) (s:List Obj) (aZ:List Nat) (e:Env):Env:=λt=>if aZ.contains t then fp lim s (e t) else .any
def ky (lim:Nat) (s:List Obj):List Obj:=(s.take lim).map λo=>{ o with au:=o.au.map λc=>c.map (fp lim s) }
theorem tD (hI:Inv σ s w) {lim:Nat} (hr:ay σ s w x u):ay σ (s.take lim) w (fp lim s x) u:=by
 unfold fp;cases h:bc lim s x with
 |none=>exact .any
 |some y=>exact iO hI hr h
theorem bA.aam (lim:Nat) (hL:L<=lim) (aZ:List Nat):∀(σ0:Gh) (s0:List Obj) (w0:World) (σ:Gh) (w:World) (N:Nat) (a:Act),s0.length<=L->aC σ0 s0 w0 σ s w->Inv σ s w->dC σ s w N e a ->
  aC σ0 s0 w0 σ (ky lim s) w/\Inv σ (ky lim s) w/\dC σ (ky lim s) w N (zS lim s aZ e) a:=by
 intro σ0 s0 w0 σ w N a kA hE hI hR;have Qh:=hE.take (lim:=lim) ae;have get:∀(id:Nat) (o:Obj),(ky lim s)[id]?=some o->∃o',(s.take lim)[id]?=some o'/\o={ o' with au:=o'.au.map λc=>c.map (fp lim s) }:=by intro id o ho;unfold ky at ho;rw[List.getElem?_map]at ho;obtain⟨o',h1,h2⟩:=Option.map_eq_some_iff.1 ho;exact⟨o',h1,h2.symm⟩
 have Cf:aC σ (s.take lim) w σ (ky lim s) w:=by
  refine⟨rfl,rfl,rfl,ajZ _,λ_ _ _=>rfl,λ_ arr _ _ h=>⟨arr,h,rfl⟩,λ_ _ h=>h,λb hb=>.inl ?_,λid o ho=>?_,rfl,λ_ _ _=>rfl⟩
  ·rcases hb with h|⟨id,o,base,h1,h2,h3⟩
   ·exact .inl h
   ·obtain⟨o',k1,rfl⟩:=get id o h1;exact .inr ⟨id,o',base,k1,h2,h3⟩
  ·exact⟨{ o with au:=o.au.map λc=>c.map (fp lim s) },by unfold ky;rw[List.getElem?_map,ho];rfl,ajZ _,λ_=>⟨rfl,rfl⟩⟩
 refine⟨Qh.trans Cf,⟨λid o ho=>?_,λi i' o o' b base bN h1 h2 h3 h4 h5=>?_,hI.low,λi o b base h1 h2=>?_⟩,⟨hR.1,hR.2.1,λt=>?_⟩⟩
 ·obtain⟨o',k1,rfl⟩:=get id o ho;have k2:s[id]?=some o':=by rw[List.getElem?_take]at k1;split at k1 <;> simp_all
  rcases hI.content id o' k2 with (⟨h1,h2⟩|⟨b,es,c,h1,h2,h3⟩)|⟨b,base,arr,E,h1,h2,h3,h4,h5⟩
  ·exact .inl (.inl ⟨h1,by simp [h2]⟩)
  ·refine .inl (.inr ⟨b,es,c,h1,h2,?_⟩);simp only[h3,fz,akq];apply akz;intro e _;rfl
  ·refine .inr ⟨b,base,arr,E,h1,h2,λc hc=>?_,by simpa using h4,λi j x hx=>?_⟩
   ·obtain⟨c',Rl,rfl⟩:=List.mem_map.1 hc;simpa using h3 c' Rl
   ·simp only[List.getElem?_map]at hx;cases hi:o'.au[i]? with
    |none=>simp [hi]at hx
    |some c =>
     simp only[hi,ajS,akA,List.getElem?_map]at hx;obtain⟨y,hy,rfl⟩:=Option.map_eq_some_iff.1 hx;obtain⟨u,g1,g2,g3⟩:=h5 i j y (by simp [hi,hy]);exact⟨u,g1,g2,(tD hI g3).aR Cf⟩
 ·obtain⟨p,k1,rfl⟩:=get _ _ h1;obtain⟨p',l1,rfl⟩:=get _ _ h2;have k2:s[i]?=some p:=by rw[List.getElem?_take]at k1;split at k1 <;> simp_all
  have l2:s[i']?=some p':=by rw[List.getElem?_take]at l1;split at l1 <;> simp_all
  exact hI.inj i i' p p' b base bN k2 l2 h3 h4 h5
 ·obtain⟨p,k1,rfl⟩:=get _ _ h1;have k2:s[i]?=some p:=by rw[List.getElem?_take]at k1;split at k1 <;> simp_all
  exact hI.apart i p b base k2 h2
 ·unfold zS;split
  ·exact(tD hI (hR.2.2 t)).aR Cf
  ·exact .any
theorem bA.drop (lim:Nat) (hL:L<=lim) (aZ:List Nat):bA L e s (zS lim s aZ e) (ky lim s) :=
 λσ0 s0 w0 σ w N a h1 h2 h3 h4=>⟨σ,bA.aam lim hL aZ σ0 s0 w0 σ w N a h1 h2 h3 h4⟩
theorem bA.kill (ids:List Nat):bA L e s e (br s ids):=by intro σ0 s0 w0 σ w N a kA hE hI hR;obtain⟨h1,h2⟩:=oE ids s hI;exact⟨σ,hE.trans h1,h2,hR.aR h1⟩
theorem bA.Kt (ids:List Nat) (lim:Nat) (hL:L<=lim) (aZ:List Nat):bA L e s (zS lim (br s ids) aZ e) (ky lim (br s ids)) :=
 (bA.kill ids).trans (bA.drop lim hL aZ)
theorem mQ {lim:Nat}:∀{l:List V},(∀(i:Nat) (x:V),l[i]?=some x->aj lim x=true)->aj.go lim l=true
 |[],_=>rfl
 |v::vs,h=>by simp only[aj.go,aj5];exact⟨h 0 v rfl,mQ λi x hx=>h (i+1) x (by simpa using hx)⟩
theorem fR (h:s[id]?=some o):id<s.length:=(List.getElem?_eq_some_iff.1 h).1
theorem ay.Y0 (h:ay σ s w x u):aj s.length x=true:=by
 induction h with
 |d hx=>rfl
 |ag h1 h2 _ ih=>exact mQ ih
 |tu h1 _ ih=>exact mQ ih
 |fu hx=>rfl
 |so o ho hg hu hk=>exact bi (fR ho)
 |rf o ho hg hu hk=>exact bi (fR ho)
 |pp o ho hg hk=>exact bi (fR ho)
 |mp o ho hg hu hk=>exact bi (fR ho)
 |bx h1 h2 h3 hu _ ih=>exact ih
 |cap h1 _ ih=>exact ih
 |cl h1 _ h3 _ sM xr =>
  simp only[aj,aj5];exact⟨mQ sM,mQ xr⟩
 |un=>rfl
 |any=>rfl
theorem ay.Sx {σ':Gh}{s':List Obj} (iV:∀b,Own σ' s' b->Own σ s b)
  (hobj:∀id o,id<n->s[id]?=some o->∃o',s'[id]?=some o'/\o.g<=o'.g/\(o'.g=o.g->o'.sz=o.sz/\σ' id=σ id)) (hr:ay σ s w x u) (h:aj n x=true):ay σ' s' w x u:=by
 induction hr with
 |d hx=>exact .d (hx.own iV)
 |ag h1 h2 _ ih=>exact .ag h1 h2 λi x hx=>ih i x hx (du (by simpa only[aj]using h) i x hx)
 |tu h1 _ ih=>exact .tu h1 λi x hx=>ih i x hx (du (by simpa only[aj]using h) i x hx)
 |fu hx=>exact .fu (hx.own iV)
 |so o ho hg hu hk =>
  simp only[aj,decide_eq_true_eq]at h;obtain⟨o',h1,h2,h3⟩:=hobj _ o h ho;refine .so o' h1 (akS hg h2) hu λhe=>?_;have e:o'.g=o.g:=ae;have:=hk ae;unfold zq at this ⊢;rw[(h3 e).1,(h3 e).2];exact this
 |rf o ho hg hu hk =>
  simp only[aj,decide_eq_true_eq]at h;obtain⟨o',h1,h2,h3⟩:=hobj _ o h ho;refine .rf o' h1 (akS hg h2) hu λhe=>?_;have e:o'.g=o.g:=ae;rw[(h3 e).1,(h3 e).2];exact hk ae
 |pp o ho hg hk =>
  simp only[aj,decide_eq_true_eq]at h;obtain⟨o',h1,h2,h3⟩:=hobj _ o h ho;refine .pp o' h1 (akS hg h2) λhe=>?_;have e:o'.g=o.g:=ae;rw[(h3 e).1,(h3 e).2];exact hk ae
 |mp o ho hg hu hk =>
  simp only[aj,decide_eq_true_eq]at h;obtain⟨o',h1,h2,h3⟩:=hobj _ o h ho;refine .mp o' h1 (akS hg h2) hu λhe=>?_;have e:o'.g=o.g:=ae;rw[(h3 e).2];exact hk ae
 |bx h1 h2 h3 hu _ ih=>exact .bx h1 h2 (λh'=>h3 (iV _ h')) hu (ih (by simpa only[aj]using h))
 |cap h1 _ ih=>exact .cap h1 (ih (by simpa only[aj]using h))
 |cl h1 _ h3 _ sM xr =>
  simp only[aj,aj5]at h;exact .cl h1 (λi x hx=>sM i x hx (du h.1 i x hx)) h3 (λi x hx=>xr i x hx (du h.2 i x hx))
 |un=>exact .un
 |any=>exact .any
def sZ (σ:Gh) (h n:Nat):Gh:=⟨λk=>if k=h then σ n else if n<=k then none else σ k,σ.base⟩
theorem CW{h:Nat} (Vw:Inv σ0 s w0) (hE:aC σ0 s w0 σ1 (s++[o]) w1) (hI:Inv σ1 (s++[o]) w1) (hh:s[h]?=some ob) (hol:o.live=true)
  (hd:∀(i j:Nat) (x:V),(o.au[i]?.bind (·[j]?))=some x->aj 0 x=true\/aj s.length x=true) :
  aC σ0 s w0 (sZ σ1 h s.length) (s.set h ⟨ob.g+1,true,o.sz,o.au⟩) w1/\Inv (sZ σ1 h s.length) (s.set h ⟨ob.g+1,true,o.sz,o.au⟩) w1 /\
   ∀lo n u,ay σ1 (s++[o]) w1 (.so s.length o.g lo n) u->ay (sZ σ1 h s.length) (s.set h ⟨ob.g+1,true,o.sz,o.au⟩) w1 (.so h (ob.g+1) lo n) u:=by
 have az:=fR hh;have A5:(s.set h ⟨ob.g+1,true,o.sz,o.au⟩)[h]?=some ⟨ob.g+1,true,o.sz,o.au⟩:=by simp [az]
 have mY:∀k,k≠h->(s.set h (⟨ob.g+1,true,o.sz,o.au⟩:Obj))[k]?=s[k]?:=λk hk=>by rw[List.getElem?_set_ne (λe=>hk e.symm)]
 have Bh:(s++[o])[s.length]?=some o:=ak;have hold:∀k ok,s[k]?=some ok->(s++[o])[k]?=some ok:=λk ok hk=>by rw[List.getElem?_append_left (fR hk)];exact hk
 have gh:sZ σ1 h s.length h=σ1 s.length:=be rfl;have go:∀k ok,k≠h->s[k]?=some ok->sZ σ1 h s.length k=σ1 k:=λk ok hk hs=>by show (if k=h then _ else if s.length<=k then _ else _)=_;rw[ap hk,ap (by have:=fR hs;omega)]
 have iV:∀b,Own (sZ σ1 h s.length) (s.set h ⟨ob.g+1,true,o.sz,o.au⟩) b->Own σ1 (s++[o]) b:=by
  rintro b (hb|⟨k,ok,base,h1,h2,h3⟩)
  ·exact .inl hb
  ·by_cases hk:k=h
   ·subst hk;rw[gh]at h3;exact .inr ⟨s.length,o,base,Bh,hol,h3⟩
   ·rw[mY k hk]at h1;rw[go k ok hk h1]at h3;exact .inr ⟨k,ok,base,hold k ok h1,h2,h3⟩
 have hobj:∀id o1,id<s.length->(s++[o])[id]?=some o1->∃o',(s.set h ⟨ob.g+1,true,o.sz,o.au⟩)[id]?=some o'/\o1.g<=o'.g/\(o'.g=o1.g->o'.sz=o1.sz/\sZ σ1 h s.length id=σ1 id):=by
  intro id o1 dc h1;rw[List.getElem?_append_left dc]at h1;by_cases hk:id=h
  ·subst hk;rw[hh]at h1;cases h1;exact⟨_,A5,Nat.le_succ _,λhe=>by simp at he⟩
  ·exact⟨o1,by rw[mY id hk];exact h1,ajZ _,λ_=>⟨rfl,go id o1 hk h1⟩⟩
 have Cf:aC σ0 s w0 (sZ σ1 h s.length) (s.set h ⟨ob.g+1,true,o.sz,o.au⟩) w1:=by refine⟨hE.os,hE.tape,hE.output,hE.size,hE.aZ,hE.shape,hE.qc,λb hb=>hE.own b (iV b hb),λid o1 h1=>?_,hE.base,hE.fj⟩;obtain⟨o2,k1,k2,k3⟩:=hE.iN id o1 h1;have dc:=fR h1;obtain⟨o3,j1,j2,j3⟩:=hobj id o2 dc k1;exact⟨o3,j1,akS k2 j2,λhe=>⟨(j3 ae).1.trans (k3 ae).1,(j3 ae).2.trans (k3 ae).2⟩⟩
 have hrefs:∀(id:Nat) (o1:Obj),s[id]?=some o1->∀(i j:Nat) (x:V),(o1.au[i]?.bind (·[j]?))=some x->aj s.length x=true:=by
  intro id o1 h1 i j x hx;rcases Vw.content id o1 h1 with (⟨_,he⟩|⟨b,es,c,_,_,he⟩)|⟨b,base,arr,E,_,_,_,_,h5⟩
  ·rw[he]at hx;simp at hx
  ·rw[he]at hx;unfold fz at hx;rw[List.getElem?_map]at hx;cases Gb:es.toList[i]? with
   |none=>rw[Gb]at hx;cases hx
   |some y =>
    rw[Gb]at hx;simp only[ajS,akA]at hx
    match j with
    |0=>simp at hx;subst hx;rfl
    |1=>simp at hx;subst hx;rfl
    |j+2=>simp at hx
  ·obtain⟨u,_,_,h6⟩:=h5 i j x hx;exact h6.Y0
 refine⟨Cf,⟨?_,?_,hI.low,?_⟩,?_⟩
 ·intro id o1 h1;by_cases hk:id=h
  ·subst hk;rw[A5]at h1;cases h1;rw[gh];rcases hI.content _ _ Bh with hb|⟨b,base,arr,E,k1,k2,k3,k4,k5⟩
   ·exact .inl (hb.congr rfl)
   ·refine .inr ⟨b,base,arr,E,k1,k2,k3,k4,λi j x hx=>?_⟩;obtain⟨u,j1,j2,j3⟩:=k5 i j x hx;rcases hd i j x hx with XM|XM
    ·exact⟨u,j1,j2,j3.move XM iV⟩
    ·exact⟨u,j1,j2,ay.Sx iV hobj j3 XM⟩
  ·rw[mY id hk]at h1;rw[go id o1 hk h1];rcases hI.content _ _ (hold id o1 h1) with hb|⟨b,base,arr,E,k1,k2,k3,k4,k5⟩
   ·exact .inl hb
   ·refine .inr ⟨b,base,arr,E,k1,k2,k3,k4,λi j x hx=>?_⟩;obtain⟨u,j1,j2,j3⟩:=k5 i j x hx;exact⟨u,j1,j2,ay.Sx iV hobj j3 (hrefs id o1 h1 i j x hx)⟩
 ·intro k k' o1 o2 b base bN h1 h2 h3 h4 h5;by_cases hk:k=h <;> by_cases sT:k'=h
  ·rw[hk,sT]
  ·subst hk;rw[gh]at h4;rw[mY k' sT]at h2;rw[go k' o2 sT h2]at h5;have:=hI.inj _ _ _ _ _ _ _ Bh (hold k' o2 h2) hol h4 h5;have:=fR h2;omega
  ·subst sT;rw[gh]at h5;rw[mY k hk]at h1;rw[go k o1 hk h1]at h4;have:=hI.inj _ _ _ _ _ _ _ (hold k o1 h1) Bh h3 h4 h5;have:=fR h1;omega
  ·rw[mY k hk]at h1;rw[mY k' sT]at h2;rw[go k o1 hk h1]at h4;rw[go k' o2 sT h2]at h5;exact hI.inj _ _ _ _ _ _ _ (hold k o1 h1) (hold k' o2 h2) h3 h4 h5
 ·intro k o1 b base h1 h2;by_cases hk:k=h
  ·subst hk;rw[gh]at h2;exact hI.apart _ _ _ _ Bh h2
  ·rw[mY k hk]at h1;rw[go k o1 hk h1]at h2;exact hI.apart _ _ _ _ (hold k o1 h1) h2
 ·intro lo n u hu;cases hu with|so o1 h1 h2 h3 h4=>?_
  rw[Bh]at h1;cases h1;refine .so _ A5 (ajZ _) h3 λ_=>?_;have:=h4 rfl;unfold zq at this ⊢;rw[gh];exact this
theorem nP{h:Nat} (Vw:Inv σ0 s w0) (hE:aC σ0 s w0 σ1 (s++[o]) w1) (hI:Inv σ1 (s++[o]) w1) (hh:s[h]?=some ob) (hol:o.live=true)
  (hd:∀(i j:Nat) (x:V),(o.au[i]?.bind (·[j]?))=some x->aj 0 x=true) :
  aC σ0 s w0 (sZ σ1 h s.length) (s.set h ⟨ob.g+1,true,o.sz,o.au⟩) w1/\Inv (sZ σ1 h s.length) (s.set h ⟨ob.g+1,true,o.sz,o.au⟩) w1 /\
   ∀lo n u,ay σ1 (s++[o]) w1 (.so s.length o.g lo n) u->ay (sZ σ1 h s.length) (s.set h ⟨ob.g+1,true,o.sz,o.au⟩) w1 (.so h (ob.g+1) lo n) u:=CW Vw hE hI hh hol λi j x hx=>.inl (hd i j x hx)
theorem J4{e:TypeId}{i:RW}{g:Nat}{xv:V} (hI:Inv σ s w) (ha:ay σ s w (.so id g lo n) ua) (hc:T0 cl ch ua) (hx:ay σ s w xv ux) (uu:il s xv=some ns)
  (hti:iL P t=some (e,i)) (ho:s[id]?=some o) (hg:o.g=g) (CY:o.sz=i.sz) (hz:∀e∈ns,e.length=i.sz) (lX:0<i.sz) (UT:0<ns.length) (hlo:lo+n<=o.au.length) (qB:o.live=true) (hr:n+ns.length<=cl) :
  ∃r σ' w',(Builtin.append_ #[t,t] ty #[ua,ux]).run P w=.ok r w'/\aC σ s w σ' (s.set id ⟨g,true,i.sz,o.au.take (lo+n)++ns++o.au.drop (lo+n+ns.length)⟩) w' /\
   Inv σ' (s.set id ⟨g,true,i.sz,o.au.take (lo+n)++ns++o.au.drop (lo+n+ns.length)⟩) w'/\ay σ' (s.set id ⟨g,true,i.sz,o.au.take (lo+n)++ns++o.au.drop (lo+n+ns.length)⟩) w' (.so id g lo (n+ns.length)) r:=by
 obtain⟨hu,hi⟩:=jD hti;obtain⟨ti,d,z,k1,k2,k3,k4,k5,k6,k7,k8,k9⟩:=gj hi;have HC:z.cells.size=i.sz:=by rw[<- ala,k6,k7]
 obtain⟨ax,qV,rfl,yC,V8,news,n1,n2,n3,n4⟩:=hU hI hx uu hz;have sg:Src P ti.size t (.slice ax ns.length qV) ns.length news w:=by
  rw[k4];cases ax with
  |none =>
   have:ns=[]:=yC rfl;subst this;simp at UT
  |some ad=>exact Src.ofSlice w hu ad ns.length qV news n1 (n3 ad rfl) n2
 obtain⟨Pb,UX⟩:=mW hI;have gD:il s (.so id g lo n)=some ((o.au.drop lo).take n):=by simp [il,ho,hg,hlo]
 have ke:((o.au.drop lo).take n).length=n:=cC;have Vo:∀e∈o.au,e.length=i.sz:=by
  intro e vV;rcases hI.content _ o ho with h0|⟨b,base,arr,E,h1,h2,h3,h4,h5⟩
  ·cases ha with|so o' g7 CK JC hk=>?_
   rw[ho]at g7;cases g7;rcases hk hg with ⟨kA,_⟩|⟨b,bs,cp,E,arr,dM,hh,_⟩
   ·rw[h0.B0 kA]at vV;cases vV
   ·exact(h0.yF dM ⟨arr,E,hh⟩).elim
  ·rw[<- CY];exact h3 e vV
 have Rm:∀e∈(o.au.drop lo).take n,e.length=i.sz:=λe he=>Vo e (ak1 (akv he));obtain⟨base,cap,yS,a1,a2,je,o1,o2,o3,o4⟩:=hU hI ha gD Rm;rw[ke]at yS a2;cases ha with|so o' g7 CK JC hk=>?_
 rw[ho]at g7;cases g7;have sT:=hk hg;have ud:n+ns.length<=cap:=by have:=(hc _ _ _ yS).1;omega
 rcases sT with ⟨kA,⟨aa,pW⟩,rfl,rfl⟩|⟨b,bs,cp,E,arr,dM,hh,pW,yT,hfit⟩
 ·rw[yS]at pW;simp only[Value.slice.injEq]at pW;omega
 rw[yS]at pW;simp only[Value.slice.injEq]at pW;obtain⟨rfl,_,rfl⟩:=pW;subst yS;generalize i.sz=Z at *;subst CY;obtain⟨bb,bs',aeR,E2,q1,q2,q3,q4,q5⟩:∃b base arr E,σ id=some (b,base)/\w.heap[b]?=some (.cells arr E (0,0))/\(∀e∈o.au,e.length=o.sz)/\base+o.au.length*o.sz<=arr.size /\
   ∀i j x,(o.au[i]?.bind (·[j]?))=some x->∃u,arr[base+i*o.sz+j]?=some u/\u.oneCell'=true/\ay σ s w x u:=by
  rcases hI.content _ o ho with h0|h0
  ·exact(h0.yF dM ⟨arr,E,hh⟩).elim
  ·exact h0
 rw[dM]at q1;simp only[ajU,akn]at q1;obtain⟨rfl,rfl⟩:=q1;rw[hh]at q2;simp only[ajU,Go.Obj.cells.injEq]at q2;obtain⟨rfl,rfl,_⟩:=q2;generalize hS:bs+(lo+n)*o.sz=S at *;have X1:bs+lo*o.sz+n*o.sz=S:=by rw[<- hS,akx];omega
 have hq:S+news.length<=arr.size:=by rw[n1,<- hS];have e1:(lo+cap)*o.sz=lo*o.sz+cap*o.sz:=akx _ _ _;have e2:=akk o.sz ud;rw[akx]at e2;rw[akx];omega
 have bH:=run_storeCells_at P b S E news 0 arr w hh ae n2;simp only[ak0]at bH;generalize lG:(arr.toList.take S++news++arr.toList.drop (S+news.length)).toArray=bR at bH;have ie:bR.size=arr.size:=by rw[<- lG];simp;omega
 have hlS:(arr.toList.take S).length=S:=cC;have az:∀p,p<S->bR[p]?=arr[p]?:=by intro p hp;rw[<- lG,List.getElem?_toArray,aj7,List.getElem?_append_left cC,List.getElem?_take,be hp,Array.getElem?_toList]
 have wF:∀q,q<news.length->bR[S+q]?=news[q]?:=by intro q XJ;rw[<- lG,List.getElem?_toArray,aj7,List.getElem?_append_right ae,hlS,List.getElem?_append_left ae];congr 1;omega
 have Zx:∀p,S+news.length<=p->bR[p]?=arr[p]?:=by intro p hp;rw[<- lG,List.getElem?_toArray,aj7,List.getElem?_append_right ae,hlS,List.getElem?_append_right ae,List.getElem?_drop,Array.getElem?_toList];congr 1;omega
 have Qw:∀e∈o.au.take (lo+n)++ns++o.au.drop (lo+n+ns.length),e.length=o.sz:=by
  intro e he;rcases List.mem_append.1 he with he|he
  ·rcases List.mem_append.1 he with he|he
   ·exact Vo e (akv he)
   ·exact hz e he
  ·exact Vo e (ak1 he)
 have VQ:bs+(o.au.take (lo+n)++ns++o.au.drop (lo+n+ns.length)).length*o.sz<=arr.size:=by
  have hl:(o.au.take (lo+n)++ns++o.au.drop (lo+n+ns.length)).length=max (lo+n+ns.length) o.au.length:=by simp only[ajQ,akH,List.length_drop];omega
  rw[hl];rcases Nat.le_total (lo+n+ns.length) o.au.length with h'|h'
  ·rw[Nat.max_eq_right h'];exact q4
  ·rw[Nat.max_eq_left h'];have e3:(lo+n+ns.length)*o.sz<=(lo+cap)*o.sz:=akk _ ae;omega
 have:=lQ (p:=some (b,bs)) (o':=⟨g,true,o.sz,o.au.take (lo+n)++ns++o.au.drop (lo+n+ns.length)⟩) (w':=w.setRow b bR) hI ho qB rfl rfl rfl ak
  (λb1 _ eU=>setRow_other w b b1 bR (λe=>eU bs (by rw[dM,e])))
  (λb1 jb Vt E1 he Mm=>by
   rw[dM]at he;cases he;rw[hh]at Mm;cases Mm;exact⟨bR,setRow_heap w b arr bR E (0,0) hh,ie⟩)
  (λb1 jb he hm=>by
   rw[dM]at he;cases he;exact(FM.notM ⟨arr,E,hh⟩ hm).elim)
  n6 (λ_=>⟨rfl,dM.symm⟩) (λb1 jb he=>by cases he;exact .inl ⟨bs,dM⟩)
  (λhE=>.inr ⟨b,bs,bR,E,rfl,setRow_heap w b arr bR E (0,0) hh,Qw,by rw[ie];exact VQ,λi' j y hy=>by
   simp only at hy ⊢;obtain⟨el,sE,hj⟩:∃el,(o.au.take (lo+n)++ns++o.au.drop (lo+n+ns.length))[i']?=some el/\el[j]?=some y:=by
    cases XJ:(o.au.take (lo+n)++ns++o.au.drop (lo+n+ns.length))[i']? with
    |none=>rw[XJ]at hy;cases hy
    |some el=>rw[XJ]at hy;exact⟨el,rfl,hy⟩
   have hjl:j<o.sz:=by have:=(List.getElem?_eq_some_iff.1 hj).1;rwa [Qw el (List.mem_of_getElem? sE)]at this
   have Kb:(o.au.take (lo+n)).length=lo+n:=cC;by_cases c1:i'<lo+n
   ·rw[aj7,List.getElem?_append_left ae,List.getElem?_take,be c1]at sE;obtain⟨u,u1,u2,u3⟩:=q5 i' j y (by rw[sE];exact hj);have iC:(i'+1)*o.sz<=(lo+n)*o.sz:=akk _ ae;rw[akx,Nat.one_mul]at iC;exact⟨u,by rw[az _ ae];exact u1,u2,u3.aR hE⟩
   ·by_cases c2:i'<lo+n+ns.length
    ·rw[aj7,List.getElem?_append_right ae,Kb,List.getElem?_append_left ae]at sE;obtain⟨c,d1,d2,d3⟩:=n4 (i' - (lo+n)) j y (by rw[sE];exact hj);have hql:=(List.getElem?_eq_some_iff.1 d1).1;have V5:bs+i'*o.sz+j=S+((i' - (lo+n))*o.sz+j):=by
      rw[<- hS,aky bs,<- aky bs,aky,aky];have:i'*o.sz=(lo+n)*o.sz+(i' - (lo+n))*o.sz:=by rw[<- akx];congr 1;omega
      omega
     exact⟨c,by rw[V5,wF _ hql];exact d1,d2,d3.aR hE⟩
    ·rw[List.getElem?_append_right (by simp only[ajQ,Kb];omega),List.getElem?_drop]at sE;have he2:o.au[i']?=some el:=by rw[<- sE];congr 1;simp only[ajQ,Kb];omega
     obtain⟨u,u1,u2,u3⟩:=q5 i' j y (by rw[he2];exact hj);have iC:(lo+n+ns.length)*o.sz<=i'*o.sz:=akk _ ae;rw[akx]at iC;exact⟨u,by rw[Zx _ (by rw[n1];omega)];exact u1,u2,u3.aR hE⟩⟩)
 have hup:nA σ id (some (b,bs)) id=some (b,bs):=bP _ _ _;refine⟨.slice (some ⟨b,bs+lo*o.sz,none⟩) (n+ns.length) cap,_,w.setRow b bR,?_,this.1,this.2,?_⟩
 ·have jV:=sg.cells;rw[k4]at jV;rw[<- X1]at bH;simp [Builtin.append_,run_underlying hu,sizeOf,typeInfo,k1,Builtin.lenOf,ud,jV,k4,Addr.add_lit,bH]
 ·exact .so ⟨g,true,o.sz,o.au.take (lo+n)++ns++o.au.drop (lo+n+ns.length)⟩ (by simp [(List.getElem?_eq_some_iff.1 ho).1]) (ajZ _) ⟨_,_,rfl⟩
   (λ_=>.inr ⟨b,bs,cap,E,bR,hup,setRow_heap w b arr bR E (0,0) hh,rfl,ud,by rw[ie];exact hfit⟩)
theorem JB{e:TypeId}{i:RW}{g:Nat}{xv:V} (hI:Inv σ s w) (ha:ay σ s w (.so id g lo n) ua) (hc:T0 cl ch ua) (hx:ay σ s w xv ux) (uu:il s xv=some ns)
  (hti:iL P t=some (e,i)) (ho:s[id]?=some o) (hg:o.g=g) (CY:o.sz=i.sz) (hz:∀e∈ns,e.length=i.sz) (lX:0<i.sz) (UT:0<ns.length) (hlo:lo+n<=o.au.length) (Zs:0<i.A3) (hb:(n+ns.length)*i.A3<=140737488355328) (hr:ch<n+ns.length) :
  ∃r σ' w',(Builtin.append_ #[t,t] ty #[ua,ux]).run P w=.ok r w'/\aC σ s w σ' (s++[⟨0,true,i.sz,(o.au.drop lo).take n++ns⟩]) w' /\
   Inv σ' (s++[⟨0,true,i.sz,(o.au.drop lo).take n++ns⟩]) w'/\ay σ' (s++[⟨0,true,i.sz,(o.au.drop lo).take n++ns⟩]) w' (.so s.length 0 0 (n+ns.length)) r:=by
 obtain⟨hu,hi⟩:=jD hti;obtain⟨ti,d,z,k1,k2,k3,k4,k5,k6,k7,k8,k9⟩:=gj hi;have HC:z.cells.size=i.sz:=by rw[<- ala,k6,k7]
 obtain⟨ax,qV,rfl,yC,V8,news,n1,n2,n3,n4⟩:=hU hI hx uu hz;have sg:Src P ti.size t (.slice ax ns.length qV) ns.length news w:=by
  rw[k4];cases ax with
  |none =>
   have:ns=[]:=yC rfl;subst this;simp at UT
  |some ad=>exact Src.ofSlice w hu ad ns.length qV news n1 (n3 ad rfl) n2
 obtain⟨Pb,UX⟩:=mW hI;have gD:il s (.so id g lo n)=some ((o.au.drop lo).take n):=by simp [il,ho,hg,hlo]
 have ke:((o.au.drop lo).take n).length=n:=cC;have Vo:∀e∈o.au,e.length=i.sz:=by
  intro e vV;rcases hI.content _ o ho with h0|⟨b,base,arr,E,h1,h2,h3,h4,h5⟩
  ·cases ha with|so o' g7 CK JC hk=>?_
   rw[ho]at g7;cases g7;rcases hk hg with ⟨kA,_⟩|⟨b,bs,cp,E,arr,dM,hh,_⟩
   ·rw[h0.B0 kA]at vV;cases vV
   ·exact(h0.yF dM ⟨arr,E,hh⟩).elim
  ·rw[<- CY];exact h3 e vV
 have Rm:∀e∈(o.au.drop lo).take n,e.length=i.sz:=λe he=>Vo e (ak1 (akv he));obtain⟨base,cap,yS,a1,a2,je,o1,o2,o3,o4⟩:=hU hI ha gD Rm;rw[ke]at yS a2;cases ha with|so o' g7 CK JC hk=>?_
 rw[ho]at g7;cases g7;have sT:=hk hg;have oU:cap<n+ns.length:=by have:=(hc _ _ _ yS).2;omega
 have hold:(Builtin.firstCells ti.size n (.slice base n cap)).run P w.drew=.ok je.toArray w.drew:=by
  rw[k4];cases base with
  |none =>
   have he:(o.au.drop lo).take n=[]:=a1 rfl;rw[he]at o1 ke;have gp:n=0:=by simpa using ke.symm
   have hn:je=[]:=akj (by simpa using o1);subst gp hn;exact run_firstCells_none w.drew i.sz 0 0 cap
  |some ad=>exact run_firstCells_some w.drew i.sz n ad n cap je (by rw[o1,ke]) (by simpa using o3 ad rfl)
 have hle:n+ns.length<=(n+ns.length)*i.A3:=Nat.le_mul_of_pos_right _ Zs;have dZ:=run_append_grow_src (P:=P) w t t ty e ti z hu k1 k3 base n cap je hold (.slice ax ns.length qV) ns.length news sg oU ae (growslice_fits oU (by rw[k5];exact hb));have gx:=grownCap_ge w (n+ns.length) cap e;subst yS;generalize grownCap w (n+ns.length) cap e=lA at *;have eZ:((je++news).toArray++Builtin.zeroCells z.cells (lA - (n+ns.length))).size=lA*i.sz:=by simp only[Array.size_append,List.size_toArray,size_zeroCells,ajQ,o1,n1,HC,ke];rw[<- akx,<- akx];congr 1;omega
 have dO:∀(i' j:Nat) (y:V),(((o.au.drop lo).take n++ns)[i']?.bind (·[j]?))=some y->∃c,((je++news).toArray++Builtin.zeroCells z.cells (lA - (n+ns.length)))[i'*i.sz+j]?=some c/\c.oneCell'=true/\ay σ s w y c:=by intro i' j y hy;obtain⟨c,c1,c2,c3⟩:=pH o1 o4 n4 i' j y hy;exact⟨c,zY c1,c2,c3⟩
 generalize (je++news).toArray++Builtin.zeroCells z.cells (lA - (n+ns.length))=arr at *;have:=pG (au:=(o.au.drop lo).take n++ns) (sz:=i.sz) (arr:=arr) UX e (λe he=>(List.mem_append.1 he).elim (Rm e) (hz e)) (by rw[eZ,ajQ,ke];exact akk _ gx)
  (λi' j y hy=>let ⟨c,c1,c2,c3⟩:=dO i' j y hy;⟨c,c1,c2,c3.aR Pb⟩)
 refine⟨_,_,_,dZ,Pb.trans this.1,this.2,?_⟩;exact .so ⟨0,true,i.sz,(o.au.drop lo).take n++ns⟩ ak (ajZ _) ⟨_,_,rfl⟩ (λ_=>.inr ⟨w.heap.size,0,lA,e,arr,bP _ _ _,heap_alloc_new w.drew _,ak,gx,by simp [eZ]⟩)
end Go.VL
