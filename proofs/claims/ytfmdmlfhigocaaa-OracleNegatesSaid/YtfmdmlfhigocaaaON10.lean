/- A part of the proof (Vo Vp Vpa Vgr). -/
import Derived.Test.YtfmdmlfhigocaaaON3
import Derived.Test.YtfmdmlfhigocaaaON9
set_option linter.unusedSimpArgs false
set_option linter.unusedVariables false
set_option maxRecDepth 100000
set_option maxHeartbeats 80000000
namespace Go.VL
variable{c:Prop}{X:(V->Prop)->Prop}{s:List Obj}
def jP (X:(V->Prop)->Prop):Prop:=∀K,X K->∃v,X (λv'=>v'=v)/\K v
def pO (X:(V->List Obj->Prop)->Prop):Prop:=∀K,X K->∃v s,X (λv' s'=>v'=v/\s'=s)/\K v s
theorem tx {agg n cs}:jP (pE agg n cs):=by
 intro K h;unfold pE at *;cases agg with
 |true=>exact⟨_,⟨h.1,rfl⟩,h.2⟩
 |false =>
  cases cs with
  |nil=>exact h.2.elim
  |cons v l=>exact⟨v,⟨h.1,rfl⟩,h.2⟩
theorem mm {s id g}{F:Obj->(V->Prop)->Prop} (hF:∀o,jP (F o)):jP λK=>uo s id g λo=>F o K:=by
 intro K h;unfold uo at *;cases hs:s[id]? with
 |none=>rw[hs]at h;exact h.elim
 |some o =>
  simp only[hs]at h ⊢;obtain⟨v,h1,h2⟩:=hF o K h.2;exact⟨v,⟨h.1,h1⟩,h2⟩
theorem Cx {s id g}{F:Obj->(V->List Obj->Prop)->Prop} (hF:∀o,pO (F o)):pO λK=>uo s id g λo=>F o K:=by
 intro K h;unfold uo at *;cases hs:s[id]? with
 |none=>rw[hs]at h;exact h.elim
 |some o =>
  simp only[hs]at h ⊢;obtain⟨v,s1,h1,h2⟩:=hF o K h.2;exact⟨v,s1,⟨h.1,h1⟩,h2⟩
theorem bh {v:V}:jP λK=>K v:=λ_ h=>⟨v,rfl,h⟩
theorem aI:jP λ_=>False:=λ_ h=>h.elim
theorem bP (h:jP X):jP λK=>c/\X K:=λK hk =>
 let ⟨v,h1,h2⟩:=h K hk.2
 ⟨v,⟨hk.1,h1⟩,h2⟩
theorem cK {v:V}:pO λK=>K v s:=λ_ h=>⟨v,s,⟨rfl,rfl⟩,h⟩
theorem aW:pO λ_=>False:=λ_ h=>h.elim
theorem cz{X:(V->List Obj->Prop)->Prop} (h:pO X):pO λK=>c/\X K:=λK hk =>
 let ⟨v,s,h1,h2⟩:=h K hk.2
 ⟨v,s,⟨hk.1,h1⟩,h2⟩
theorem fB (h:jP X):pO λK=>X λv=>K v s:=by intro K hk;obtain⟨v,h1,h2⟩:=h _ hk;refine⟨v,s,?_,h2⟩;simpa using h1
theorem Ki {P t s p}:jP (lB P t s p):=by
 unfold lB;cases cw P t with
 |none=>exact aI
 |some i =>
  simp only;cases p with
  |d x =>
   cases x with
   |el cs=>exact tx
   |_=>exact aI
  |rf id g k off =>
   simp only;cases s[id]? with
   |none=>exact aI
   |some o =>
    simp only;cases o.aw[k]? with
    |none=>exact bP aI
    |some cs=>exact bP tx
  |pp id g k off b a =>
   simp only;cases s[id]? with
   |none=>exact aI
   |some o =>
    simp only;cases o.aw[k]? with
    |none=>exact bP aI
    |some cs=>exact bP tx
  |bx v=>exact tx
  |_=>exact aI
theorem At {P t s p f}:jP (eD P t s p f):=by
 unfold eD;cases bk P t f with
 |none=>exact aI
 |some i =>
  simp only;split
  ·exact bh
  ·exact mm λ_=>bh
  ·exact mm λ_=>bh
  ·exact bh
  ·exact aI
theorem L7 {aw i z}:jP (Ue aw i z):=by
 unfold Ue;cases aw[i]? with
 |none=>exact aI
 |some cs=>exact bP bh
theorem Ao {P t s x i}:jP (dy P t s x i):=by
 unfold dy;split
 ·split
  ·split
   ·exact bP (bP L7)
   ·exact bP (bP L7)
   ·exact mm λ_=>bP (bP (bP bh))
   ·exact aI
  ·split
   ·split
    ·exact bP (bP bh)
    ·exact mm λ_=>bP (bP bh)
    ·exact aI
   ·exact aI
 ·exact aI
theorem A9 {P t cs off}:jP (sd P t cs off):=by
 unfold sd;cases cw P t with
 |none=>exact aI
 |some i =>
  simp only;cases i.agg with
  |true=>exact bP bh
  |false =>
   simp only;cases cs[off]? with
   |none=>exact aI
   |some v=>exact bh
theorem JC {P t x f}:jP (mj P t x f):=by
 unfold mj;split
 ·split
  ·split
   ·exact A9
   ·exact aI
  ·exact aI
 ·exact aI
theorem Iw {P t x i}:jP (ka P t x i):=by
 unfold ka;split
 ·split
  ·split
   ·split
    ·exact bP (bP A9)
    ·exact aI
   ·exact aI
  ·exact aI
 ·exact aI
theorem Ip {P t parts}:jP (pr P t parts):=by
 unfold pr;split
 ·exact aI
 ·split
  ·split
   ·exact bh
   ·exact aI
  ·split
   ·split
    ·exact bh
    ·exact aI
   ·exact aI
theorem Jy {P t s}:pO (pq P t s):=by
 unfold pq;split
 ·exact aW
 ·exact cK
theorem Nb {s x}:pO (zT s x):=by
 unfold zT;split
 ·exact aW
 ·exact cK
theorem yC {P t len parts s}:pO (ey P t len parts s):=by
 unfold ey;split
 ·exact aW
 ·refine cz ?_;split
  ·exact aW
  ·split
   ·exact cK
   ·exact cK
theorem Aw {P t l c s}:pO (fY P t l c s):=by
 unfold fY;split
 ·exact aW
 ·split
  ·exact cz cK
  ·exact aW
theorem Gm {P t a x s}:pO (df P t a x s):=by
 unfold df;split
 ·exact aW
 ·split
  ·exact aW
  ·refine cz ?_;split
   ·split
    ·exact cz cK
    ·exact cz cK
   ·exact Cx λ_=>cz cK
   ·exact aW
theorem Dg {P t t' a x s}:pO (kD P t t' a x s):=by
 unfold kD;split
 ·exact aW
 ·split
  ·split
   ·exact cz cK
   ·exact aW
  ·exact aW
theorem Ob {P t x}:jP (Jx P t x):=by
 unfold Jx;split
 ·split
  ·exact bh
  ·exact aI
 ·exact aI
theorem Db {P t x lo hi mx}:jP (lQ P t x lo hi mx):=by
 unfold lQ;split
 ·exact aI
 ·split
  ·exact bP bh
  ·exact aI
theorem Hd {P t x lo hi mx s}:jP (kU P t x lo hi mx s):=by
 unfold kU;split
 ·exact Db
 ·split
  ·exact aI
  ·split
   ·refine bP ?_;split
    ·exact bP bh
    ·exact bP bh
    ·exact bP (bP (bP bh))
    ·refine mm λ_=>bP ?_;split
     ·exact bh
     ·exact bh
    ·exact aI
   ·exact aI
theorem Ot {P t x s}:jP (lq P t x s):=by
 unfold lq;split
 ·split
  ·exact bh
  ·exact bh
  ·exact bh
  ·exact aI
 ·split
  ·exact bh
  ·exact aI
 ·exact aI
theorem N9 {op k a b}:jP (eP op k a b):=by unfold eP;split <;> first|exact bh|exact bP bh|exact aI|(split <;> first|exact bh|exact bP bh|exact aI)
theorem IT {P op t xs ys}:jP (jq P op t xs ys):=by
 unfold jq;split
 ·refine bP ?_;split <;> first|exact bh|exact aI
 ·refine bP ?_;split <;> first|exact bh|exact aI
 ·exact aI
theorem K8 {P op t s x y}:jP (de P op t s x y):=by unfold de;split <;> first|exact IT|exact bP N9|exact aI|(refine bP ?_;split <;> first|exact bh|exact aI)|(refine bP (bP ?_);split <;> first|exact bh|exact aI)|(split <;> first|exact bh|exact aI)
theorem NS {P op t s x y}:jP (pD P op t s x y):=by
 unfold pD;split
 ·unfold rb;split
  ·exact bP bh
  ·exact aI
 ·exact K8
theorem Ib {P op t s x}:jP (dU P op t s x):=by unfold dU;refine bP (bP ?_);split <;> first|exact bh|exact aI|exact mm λ_=>bh
theorem Qo {op x}:jP (Au op x):=by unfold Au;split <;> first|exact bh|exact aI
theorem Kk {P a b x}:jP (pI P a b x):=by
 unfold pI;split
 ·split <;> first|exact bh|exact aI
 ·exact aI
theorem qQ {mn}:∀(ys:List V) (acc:V),jP (eX mn acc ys)
 |[],acc=>bh
 |y::ys,acc=>by
  intro K h;unfold eX at h;split at h
  ·obtain⟨v,h1,h2⟩:=qQ ys _ K h;exact⟨v,by unfold eX;exact h1,h2⟩
  ·exact h.elim
theorem NW {s x}:jP (jy s x):=by
 unfold jy;split
 ·exact bh
 ·exact mm λ_=>bh
 ·exact mm λ_=>bh
 ·exact bh
 ·exact bh
 ·exact aI
theorem Np {x i}:jP (xF x i):=by
 unfold xF;split
 ·split
  ·exact bh
  ·exact aI
 ·exact aI
theorem IA {x a b s}:pO λK=>gK x (K a s) (K b s):=by
 unfold gK;split
 ·rename_i b';cases b' with
  |true=>intro K h;exact⟨a,s,by simp,h.1 rfl⟩
  |false=>intro K h;exact⟨b,s,by simp,h.2 rfl⟩
 ·exact aW
theorem I9 {P t s p x}:pO λK=>gY P t s p x λs'=>K .un s':=by
 unfold gY;split
 ·exact aW
 ·split
  ·split
   ·exact aW
   ·refine cz (cz ?_);split
    ·exact aW
    ·split
     ·exact aW
     ·exact cz (cz cK)
  ·split
   ·exact aW
   ·refine cz (cz ?_);split
    ·exact aW
    ·split
     ·exact aW
     ·exact cz (cz cK)
  ·exact aW
theorem Lb {P t a x s}:pO (yx P t a x s):=by
 unfold yx;split
 ·exact aW
 ·split
  ·exact aW
  ·refine cz ?_;split
   ·unfold uo;split
    ·exact aW
    ·exact cz (cz cK)
   ·exact aW
theorem GU {P t x s}:pO (oM P t x s):=by
 unfold oM;split
 ·exact aW
 ·split
  ·unfold uo;split
   ·exact aW
   ·exact cz (cz cK)
  ·exact cK
  ·exact aW
theorem Hx {P t s m k}:jP (pn P t s m k):=by
 unfold pn;split
 ·exact aI
 ·split
  ·split
   ·refine mm λ_=>bP ?_;split
    ·exact aI
    ·exact bh
   ·exact aI
  ·exact aI
theorem KV {P t s m k x}:pO λK=>Bz P t s m k x λs'=>K .un s':=by
 unfold Bz;split
 ·exact aW
 ·split
  ·split
   ·split
    ·refine Cx λ_=>cz ?_;split
     ·exact aW
     ·exact cz cK
    ·exact aW
   ·exact aW
  ·exact aW
theorem FR {P t s m k}:jP (jh P t s m k):=by
 unfold jh;split
 ·exact Hx
 ·split
  ·split
   ·refine mm λ_=>bP ?_;split
    ·exact aI
    ·exact bh
   ·exact aI
  ·exact aI
theorem DS {P t s m k x}:pO λK=>vq P t s m k x λs'=>K .un s':=by
 unfold vq;split
 ·exact KV
 ·split
  ·split
   ·split
    ·refine Cx λ_=>cz ?_;split
     ·exact aW
     ·exact cz cK
    ·exact aW
   ·exact aW
  ·exact aW
theorem DB {P t r s}:pO (nD P t r s):=cz cK
def KG (o:Oper):Bool :=
 match o.op with
 |.call c=>match c.callee with
  |.value _=>true
  |_=>false
 |_=>false
theorem Kw {P o e s} (hc:KG o=false):pO (cN P o e s):=by
 obtain⟨dst,op,ty,pos,after,guard⟩:=o;unfold cN;cases op <;> simp only
 case move=>exact cK
 case assign=>exact cK
 case pick=>exact IA
 case alloc=>exact Jy
 case box=>exact Nb
 case build=>exact fB Ip
 case buildSlice=>exact yC
 case load=>exact fB Ki
 case store=>exact I9
 case nilCheck=>exact fB NW
 case binOp op t x y t' =>
  cases Pk y with
  |true=>exact fB Ib
  |false=>exact fB NS
 case unOp=>exact fB Qo
 case convert=>exact fB Kk
 case makeFunc=>exact cK
 case makeSlice=>exact Aw
 case slice=>exact fB Hd
 case fieldAddr=>exact fB At
 case field=>exact fB JC
 case indexAddr=>exact fB Ao
 case index=>exact fB Iw
 case extract=>exact fB Np
 case makeMap=>exact DB
 case lookup t x i ok =>
  cases ok with
  |true=>exact aW
  |false=>exact fB FR
 case mapUpdate=>exact DS
 case insert=>exact DS
 case call c =>
  unfold gH;simp only[KG]at hc;split
  ·rename_i h;rw[h]at hc;cases hc
  ·rename_i h;rw[h]at hc;cases hc
  ·split
   ·exact fB Ot
   ·split
    ·exact Gm
    ·exact Dg
   ·exact cz Lb
   ·exact GU
   ·exact fB (qQ _ _)
   ·exact fB (qQ _ _)
   ·exact fB Ob
   ·exact aW
  ·exact aW
 all_goals exact aW
def fQ:V->List Nat
 |.rf id _ _ _=>[id]
 |.pp id _ _ _ _ _=>[id]
 |.so id _ _ _=>[id]
 |.mp id _=>[id]
 |_=>[]
def ry (e:Env) (o:Oper):List Nat :=
 match o.op with
 |.move _|.assign _|.pick ..|.build ..|.buildSlice ..|.makeFunc ..=>[]
 |.load _ a=>fQ (vk (e 0) (ev e a))
 |.call ⟨.builtin .len,_,_⟩=>[]
 |_=>o.op.operands.toList.flatMap λx=>fQ (ev e x)
def Oh (o:Oper):Bool :=
 match o.op with
 |.move _|.assign _|.pick ..|.build ..|.buildSlice ..|.load ..|.nilCheck _|.binOp ..|.unOp ..|.convert ..|.makeFunc ..|.slice ..|.fieldAddr ..|.field ..|.indexAddr ..|.index ..|.extract ..|.lookup ..=>true
 |.call c=>match c.callee with
  |.builtin .len=>true
  |.builtin .min=>true
  |.builtin .max=>true
  |.builtin .append=>true
  |_=>false
 |_=>false
section
variable {P:Program}{s s':List Obj}
variable{id:Nat}{p:V}{t:TypeId}{op:BinOp}{x:V}{v:V}
theorem fR {g:Nat} (h:s'[id]?=s[id]?) (K:Obj->Prop):uo s id g K=uo s' id g K:=by unfold uo;rw[h]
theorem GH (h:∀id∈fQ p,s'[id]?=s[id]?) (K:V->Prop):lB P t s p K=lB P t s' p K:=by
 unfold lB;cases cw P t with
 |none=>rfl
 |some i =>
  cases p with
  |rf id g k off=>simp only[h id (by simp [fQ])]
  |pp id g k off b a=>simp only[h id (by simp [fQ])]
  |d x=>cases x <;> rfl
  |_=>rfl
theorem yh{f:Nat} (h:∀id∈fQ p,s'[id]?=s[id]?) (K:V->Prop):eD P t s p f K=eD P t s' p f K:=by
 unfold eD;cases bk P t f with
 |none=>rfl
 |some d =>
  cases p with
  |rf id g k off=>simp only[fR (h id (by simp [fQ]))]
  |pp id g k off b a=>simp only[fR (h id (by simp [fQ]))]
  |d x=>simp only;split <;> first|rfl|(rename_i he;cases he)
  |_=>rfl
theorem yl{i:V} (h:∀id∈fQ p,s'[id]?=s[id]?) (K:V->Prop):dy P t s p i K=dy P t s' p i K:=by
 unfold dy;split
 ·split
  ·cases p with
   |so id g lo n=>simp only[fR (h id (by simp [fQ]))]
   |d x=>cases x <;> rfl
   |_=>rfl
  ·split
   ·cases p with
    |rf id g k off=>simp only[fR (h id (by simp [fQ]))]
    |d x=>cases x <;> rfl
    |_=>rfl
   ·rfl
 ·rfl
theorem Jg (K:V->Prop):lq P t p s K=lq P t p s' K:=by
 unfold lq;split
 ·cases p with
  |so id g lo n=>rfl
  |d x=>cases x <;> rfl
  |_=>rfl
 ·rfl
 ·rfl
theorem Dx{k:V} (h:∀id∈fQ p,s'[id]?=s[id]?) (K:V->Prop):pn P t s p k K=pn P t s' p k K:=by
 unfold pn;cases BI P t with
 |none=>rfl
 |some ik =>
  cases p with
  |mp id g=>simp only[fR (h id (by simp [fQ]))]
  |_=>rfl
theorem Ct{k:V} (h:∀id∈fQ p,s'[id]?=s[id]?) (K:V->Prop):jh P t s p k K=jh P t s' p k K:=by
 unfold jh;cases HU P t with
 |none=>exact Dx h K
 |some ik =>
  cases p with
  |mp id g=>simp only[fR (h id (by simp [fQ]))]
  |_=>rfl
theorem HT (h:∀id∈fQ p,s'[id]?=s[id]?) (K:V->Prop):jy s p K=jy s' p K:=by
 cases p with
 |rf id g k off=>simp only[jy,fR (h id (by simp [fQ]))]
 |pp id g k off b a=>simp only[jy,fR (h id (by simp [fQ]))]
 |d x=>unfold jy;split <;> first|rfl|(rename_i he;cases he)
 |cl f a b=>cases f <;> rfl
 |_=>rfl
theorem CO (h:∀id∈fQ p,s'[id]?=s[id]?):iy s p=iy s' p:=by
 unfold iy;cases p with
 |so id g lo n=>simp only[h id (by simp [fQ])]
 |d x=>cases x <;> rfl
 |_=>rfl
theorem DM{lo hi mx:Option V} (h:∀id∈fQ p,s'[id]?=s[id]?) (K:V->Prop):kU P t p lo hi mx s K=kU P t p lo hi mx s' K:=by
 unfold kU;rw[CO h];split
 ·rfl
 ·split
  ·rfl
  ·split
   ·congr 1;cases mx with
    |none =>
     cases p with
     |so id g lo n=>simp only[fR (h id (by simp [fQ]))]
     |d x=>cases x <;> rfl
     |_=>rfl
    |some m =>
     cases p with
     |d x=>cases x <;> rfl
     |_=>rfl
   ·rfl
theorem DH (h:∀id∈fQ p,s'[id]?=s[id]?) (K:V->Prop):dU P op t s p K=dU P op t s' p K:=by
 unfold dU;cases p with
 |so id g lo n=>cases n <;> simp only[fR (h id (by simp [fQ]))]
 |d x=>cases x with
  |sl aw=>cases aw <;> rfl
  |_=>rfl
 |fu aw=>cases aw <;> rfl
 |_=>rfl
theorem zR (h:∀id∈fQ p,s'[id]?=s[id]?):oP s p=oP s' p:=by
 unfold oP;cases p with
 |rf id g k off=>simp only[fR (h id (by simp [fQ]))]
 |pp id g k off b a=>simp only[fR (h id (by simp [fQ]))]
 |d x=>cases x <;> rfl
 |_=>rfl
theorem F4{y:V} (h:∀id∈fQ x,s'[id]?=s[id]?) (h':∀id∈fQ y,s'[id]?=s[id]?) (K:V->Prop):de P op t s x y K=de P op t s' x y K:=by unfold de;split <;> simp only[zR h,zR h']
theorem Js{y:V} (h:∀id∈fQ x,s'[id]?=s[id]?) (h':∀id∈fQ y,s'[id]?=s[id]?) (K:V->Prop):pD P op t s x y K=pD P op t s' x y K:=by
 unfold pD;split
 ·rfl
 ·exact F4 h h' K
theorem Vs {s:List Obj}{o n:Obj} (ho:s[id]?=some o) (hn:n.g≠o.g):s.set id n≠s:=by intro h;have h1:=agc (a:=n) (List.getElem?_eq_some_iff.1 ho).1;rw[h,ho]at h1;cases h1;exact hn rfl
theorem I4{a:V} (h:∀id∈fQ a,s'[id]?=s[id]?) (h':∀id∈fQ x,s'[id]?=s[id]?) (hw:df P t a x s λv' s1=>v'=v/\s1=s):df P t a x s' λv' s1=>v'=v/\s1=s':=by
 unfold df at hw ⊢;rw[CO h']at hw;split at hw
 ·exact hw.elim
 rename_i i hi;split at hw
 ·exact hw.elim
 rename_i ns wK;refine⟨hw.1,?_⟩;have hw:=hw.2;split at hw
 ·split at hw
  ·exact⟨hw.1,hw.2.1,rfl⟩
  ·exact absurd (congrArg List.length hw.2.2) (by simp)
 ·exfalso;obtain⟨o,ho,hg,⟨_,_,hs⟩⟩:=dZ hw;exact Vs ho (by simp only;omega) hs
 ·exact hw.elim
theorem DG {t':TypeId}{a:V} (hw:kD P t t' a x s λv' s1=>v'=v/\s1=s):False:=by
 unfold kD at hw;split at hw
 ·exact hw
 ·split at hw
  ·split at hw
   ·exact absurd (congrArg List.length hw.2.2) (by simp)
   ·exact hw
  ·exact hw
theorem HR {o:Oper}{e:Env} (hr:Oh o=true) (h:∀id∈ry e o,s'[id]?=s[id]?) (hw:cN P o e s λv' s1=>v'=v/\s1=s):cN P o e s' λv' s1=>v'=v/\s1=s':=by
 obtain⟨dst,op,ty,pos,after,guard⟩:=o;have rd:(ry e ⟨dst,op,ty,pos,after,guard⟩=op.operands.toList.flatMap λx=>fQ (ev e x))->∀x∈op.operands.toList,∀id∈fQ (ev e x),s'[id]?=s[id]?:=λhe x hx id cS=>h id (by rw[he];exact List.mem_flatMap.2 ⟨x,hx,cS⟩);unfold cN at hw ⊢;cases op <;> simp only[Oh,age]at hr <;> simp only at hw ⊢
 case move=>exact hw
 case assign=>exact hw
 case pick=>simpa using hw
 case build=>exact hw
 case buildSlice =>
  unfold ey at hw ⊢;split at hw
  ·exact hw.elim
  ·refine⟨hw.1,?_⟩;have hw:=hw.2;split at hw
   ·exact hw.elim
   ·split at hw
    ·exact⟨hw.1,rfl⟩
    ·exact absurd (congrArg List.length hw.2) (by simp)
 case load t a=>rw[GH (λid cS=>h id (by simpa [ry]using cS))]at hw;exact hw
 case nilCheck a=>rw[HT (rd rfl a (by simp [Op.operands]))]at hw;exact hw
 case binOp op t x y t' =>
  cases hn:Pk y with
  |true=>rw[hn]at hw;simp only[cond_true]at hw ⊢;rw[DH (rd rfl x (by simp [Op.operands]))]at hw;exact hw
  |false=>rw[hn]at hw;simp only[cond_false]at hw ⊢;rw[Js (rd rfl x (by simp [Op.operands])) (rd rfl y (by simp [Op.operands]))]at hw;exact hw
 case unOp=>exact hw
 case convert=>exact hw
 case makeFunc=>exact hw
 case slice t x lo hi mx=>rw[DM (rd rfl x (by simp [Op.operands]))]at hw;exact hw
 case fieldAddr t x f=>rw[yh (rd rfl x (by simp [Op.operands]))]at hw;exact hw
 case field=>exact hw
 case indexAddr t x i=>rw[yl (rd rfl x (by simp [Op.operands]))]at hw;exact hw
 case index=>exact hw
 case extract=>exact hw
 case lookup t x i ok =>
  cases ok with
  |true=>exact hw.elim
  |false=>simp only[cond_false]at hw ⊢;rw[Ct (rd rfl x (by simp [Op.operands]))]at hw;exact hw
 case call c =>
  obtain⟨callee,args,argTypes⟩:=c;cases callee with
  |value f=>cases hr
  |invoke r m=>cases hr
  |builtin b =>
   unfold gH at hw ⊢;simp only at hw ⊢ hr;split at hw
   ·rename_i x t ha ht;rw[Jg (s':=s')]at hw;exact hw
   ·rename_i a x t t' ha ht;split at hw
    ·rename_i JP;rw[be JP];exact I4 (rd rfl a (by simp [Op.operands,Call.operands,ha])) (rd rfl x (by simp [Op.operands,Call.operands,ha])) hw
    ·exact(DG hw).elim
   ·first|(cases hr;done)|(simp at hr;done)
   ·first|(cases hr;done)|(simp at hr;done)
   ·exact hw
   ·exact hw
   ·first|exact hw|(cases hr;done)|(simp at hr;done)
   ·exact hw.elim
end
variable{o:Obj}{id:Nat}{kN:Nat}{s:List Obj}{σ:Gh}{w:World}{P:Program}{u:Value}{x:V}{e:Env}{L:Nat}{n:Nat}{w0:World}{σ0:Gh}{w1:World}{ob:Obj}{σ1:Gh}{ux:Value}{cl:Nat}{ua:Value}{lo:Nat}{ns:List (List V)}{ty:TypeId}{t:TypeId}{ch:Nat}
def bM (s:List Obj) (id:Nat):List Obj :=
 match s[id]? with
 |some o=>s.set id { o with live:=false }
 |none=>s
def bE (s:List Obj):List Nat->List Obj
 |[]=>s
 |id::ids=>bE (bM s id) ids
theorem jt (h:(bM s id)[kN]?=some o):∃o',s[kN]?=some o'/\o.g=o'.g/\o.sz=o'.sz/\o.aw=o'.aw/\(o.live=true->o'.live=true):=by
 unfold bM at h;split at h
 ·rename_i o0 YS;rw[List.getElem?_set]at h;split at h
  ·rename_i he;subst he;split at h
   ·simp only[afY]at h;subst h;exact⟨o0,YS,rfl,rfl,rfl,λh=>by cases h⟩
   ·cases h
  ·exact⟨o,h,rfl,rfl,rfl,λh=>h⟩
 ·exact⟨o,h,rfl,rfl,rfl,λh=>h⟩
theorem QO (h:s[kN]?=some o):∃o',(bM s id)[kN]?=some o'/\o'.g=o.g/\o'.sz=o.sz:=by
 unfold bM;split
 ·rename_i o0 YS;rw[List.getElem?_set];split
  ·rename_i he;subst he;rw[YS]at h;cases h;rw[be (List.getElem?_eq_some_iff.1 YS).1];exact⟨_,rfl,rfl,rfl⟩
  ·exact⟨o,h,rfl,rfl⟩
 ·exact⟨o,h,rfl,rfl⟩
theorem sW (hI:Inv σ s w) (id:Nat):aF σ s w σ (bM s id) w/\Inv σ (bM s id) w:=by
 have own:∀b,Own σ (bM s id) b->Own σ s b:=by
  rintro b (h|⟨kN,o,base,h1,h2,h3⟩)
  ·exact .inl h
  ·obtain⟨o',k1,_,_,_,k5⟩:=jt h1;exact .inr ⟨kN,o',base,k1,k5 h2,h3⟩
 have hE:aF σ s w σ (bM s id) w:=⟨rfl,rfl,rfl,af3 _,λ_ _ _=>rfl,λ_ arr _ _ h=>⟨arr,h,rfl⟩,λ_ _ h=>h,λb h=>.inl (own b h),
  λkN o ho=>let ⟨o',k1,k2,k3⟩:=QO (id:=id) ho;⟨o',k1,by omega,λ_=>⟨k3,rfl⟩⟩,rfl,λ_ _ _=>rfl⟩
 refine⟨hE,⟨λkN o ho=>?_,λi i' o o' b base bI h1 h2 h3 h4 h5=>?_,hI.low,λi o b base h1 h2=>?_⟩⟩
 ·obtain⟨o',k1,_,k3,k4,_⟩:=jt ho;rw[k4,k3];rcases hI.content kN o' k1 with h|⟨b,base,arr,E,h1,h2,h3,h4,h5⟩
  ·exact .inl (h.congr k4)
  ·exact .inr ⟨b,base,arr,E,h1,h2,h3,h4,λi j x hx=>let ⟨u,g1,g2,g3⟩:=h5 i j x hx;⟨u,g1,g2,g3.aX hE⟩⟩
 ·obtain⟨p,k1,_,_,_,k5⟩:=jt h1;obtain⟨p',l1,_⟩:=jt h2;exact hI.inj i i' p p' b base bI k1 l1 (k5 h3) h4 h5
 ·obtain⟨p,k1,_⟩:=jt h1;exact hI.apart i p b base k1 h2
theorem tq {σ:Gh}{w:World}:∀(ids:List Nat) (s:List Obj),Inv σ s w->aF σ s w σ (bE s ids) w/\Inv σ (bE s ids) w
 |[],s,hI=>⟨aF.refl _ _ _,hI⟩
 |id::ids,s,hI=>by obtain⟨h1,h2⟩:=sW hI id;obtain⟨k1,k2⟩:=tq ids (bM s id) h2;exact⟨h1.trans k1,k2⟩
theorem bc{f:FuncId}{args cargs:List V}{K:V->List Obj->Prop} (ids:List Nat) (hc:ba.go (bE s ids).length (bE s ids) args=some cargs) (h:aq P f cargs (bE s ids) K):aq P f args s K:=by
 refine⟨h.1,λσ w vals hI hl hv=>?_⟩;obtain⟨hE,jo⟩:=tq ids s hI;obtain⟨k1,k2⟩:=tA hc;refine(h.2 σ w vals jo (by omega) λi x hx=>?_).mono λe w' ⟨u,v,σ',s',h1,h2,h3,h4,h5⟩=>⟨u,v,σ',s',h1,hE.trans h2,h3,h4,h5⟩
 obtain⟨y,hy,hf⟩:=k2 i x hx;have:=lP jo ((hv i y hy).aX hE) hf;rwa [agj]at this
def fA (lim:Nat) (s:List Obj) (x:V):V:=(ba lim s x).getD .any
def y5 (lim:Nat) (s:List Obj) (aY:List Nat) (e:Env):Env:=λt=>if aY.contains t then fA lim s (e t) else .any
def ko (lim:Nat) (s:List Obj):List Obj:=(s.take lim).map λo=>{ o with aw:=o.aw.map λc=>c.map (fA lim s) }
theorem sQ (hI:Inv σ s w) {lim:Nat} (hr:aA σ s w x u):aA σ (s.take lim) w (fA lim s x) u:=by
 unfold fA;cases h:ba lim s x with
 |none=>exact .any
 |some y=>exact lP hI hr h
theorem br.WV (lim:Nat) (hL:L<=lim) (aY:List Nat):∀(σ0:Gh) (s0:List Obj) (w0:World) (σ:Gh) (w:World) (N:Nat) (a:Act),s0.length<=L->aF σ0 s0 w0 σ s w->Inv σ s w->dQ σ s w N e a ->
  aF σ0 s0 w0 σ (ko lim s) w/\Inv σ (ko lim s) w/\dQ σ (ko lim s) w N (y5 lim s aY e) a:=by
 intro σ0 s0 w0 σ w N a qj hE hI hR;have Qk:=hE.take (lim:=lim) (by omega);have get:∀(id:Nat) (o:Obj),(ko lim s)[id]?=some o->∃o',(s.take lim)[id]?=some o'/\o={ o' with aw:=o'.aw.map λc=>c.map (fA lim s) }:=by intro id o ho;unfold ko at ho;rw[afO]at ho;obtain⟨o',h1,h2⟩:=Option.map_eq_some_iff.1 ho;exact⟨o',h1,h2.symm⟩
 have AB:aF σ (s.take lim) w σ (ko lim s) w:=by
  refine⟨rfl,rfl,rfl,af3 _,λ_ _ _=>rfl,λ_ arr _ _ h=>⟨arr,h,rfl⟩,λ_ _ h=>h,λb hb=>.inl ?_,λid o ho=>?_,rfl,λ_ _ _=>rfl⟩
  ·rcases hb with h|⟨id,o,base,h1,h2,h3⟩
   ·exact .inl h
   ·obtain⟨o',k1,rfl⟩:=get id o h1;exact .inr ⟨id,o',base,k1,h2,h3⟩
  ·exact⟨{ o with aw:=o.aw.map λc=>c.map (fA lim s) },by unfold ko;rw[afO,ho];rfl,af3 _,λ_=>⟨rfl,rfl⟩⟩
 refine⟨Qk.trans AB,⟨λid o ho=>?_,λi i' o o' b base bI h1 h2 h3 h4 h5=>?_,hI.low,λi o b base h1 h2=>?_⟩,⟨hR.1,hR.2.1,λt=>?_⟩⟩
 ·obtain⟨o',k1,rfl⟩:=get id o ho;have k2:s[id]?=some o':=by rw[agt]at k1;split at k1 <;> simp_all
  rcases hI.content id o' k2 with (⟨h1,h2⟩|⟨b,es,c,h1,h2,h3⟩)|⟨b,base,arr,E,h1,h2,h3,h4,h5⟩
  ·exact .inl (.inl ⟨h1,by simp [h2]⟩)
  ·refine .inl (.inr ⟨b,es,c,h1,h2,?_⟩);simp only[h3,eR,agy];apply agC;intro e _;rfl
  ·refine .inr ⟨b,base,arr,E,h1,h2,λc hc=>?_,by simpa using h4,λi j x hx=>?_⟩
   ·obtain⟨c',T8,rfl⟩:=List.mem_map.1 hc;simpa using h3 c' T8
   ·simp only[afO]at hx;cases hi:o'.aw[i]? with
    |none=>simp [hi]at hx
    |some c =>
     simp only[hi,afV,agE,afO]at hx;obtain⟨y,hy,rfl⟩:=Option.map_eq_some_iff.1 hx;obtain⟨u,g1,g2,g3⟩:=h5 i j y (by simp [hi,hy]);exact⟨u,g1,g2,(sQ hI g3).aX AB⟩
 ·obtain⟨p,k1,rfl⟩:=get _ _ h1;obtain⟨p',l1,rfl⟩:=get _ _ h2;have k2:s[i]?=some p:=by rw[agt]at k1;split at k1 <;> simp_all
  have l2:s[i']?=some p':=by rw[agt]at l1;split at l1 <;> simp_all
  exact hI.inj i i' p p' b base bI k2 l2 h3 h4 h5
 ·obtain⟨p,k1,rfl⟩:=get _ _ h1;have k2:s[i]?=some p:=by rw[agt]at k1;split at k1 <;> simp_all
  exact hI.apart i p b base k2 h2
 ·unfold y5;split
  ·exact(sQ hI (hR.2.2 t)).aX AB
  ·exact .any
theorem br.drop (lim:Nat) (hL:L<=lim) (aY:List Nat):br L e s (y5 lim s aY e) (ko lim s) :=
 λσ0 s0 w0 σ w N a h1 h2 h3 h4=>⟨σ,br.WV lim hL aY σ0 s0 w0 σ w N a h1 h2 h3 h4⟩
theorem br.kill (ids:List Nat):br L e s e (bE s ids):=by intro σ0 s0 w0 σ w N a qj hE hI hR;obtain⟨h1,h2⟩:=tq ids s hI;exact⟨σ,hE.trans h1,h2,hR.aX h1⟩
theorem br.Iv (ids:List Nat) (lim:Nat) (hL:L<=lim) (aY:List Nat):br L e s (y5 lim (bE s ids) aY e) (ko lim (bE s ids)) :=
 (br.kill ids).trans (br.drop lim hL aY)
theorem mz {lim:Nat}:∀{l:List V},(∀(i:Nat) (x:V),l[i]?=some x->ah lim x=true)->ah.go lim l=true
 |[],_=>rfl
 |v::vs,h=>by simp only[ah.go,agb];exact⟨h 0 v rfl,mz λi x hx=>h (i+1) x (by simpa using hx)⟩
theorem fo (h:s[id]?=some o):id<s.length:=(List.getElem?_eq_some_iff.1 h).1
theorem aA.VA (h:aA σ s w x u):ah s.length x=true:=by
 induction h with
 |d hx=>rfl
 |ag h1 h2 _ ih=>exact mz ih
 |tu h1 _ ih=>exact mz ih
 |fu hx=>rfl
 |so o ho hg hu hk=>exact bi (fo ho)
 |rf o ho hg hu hk=>exact bi (fo ho)
 |pp o ho hg hk=>exact bi (fo ho)
 |mp o ho hg hu hk=>exact bi (fo ho)
 |bx h1 h2 h3 hu _ ih=>exact ih
 |cap h1 _ ih=>exact ih
 |cl h1 _ h3 _ yp ym =>
  simp only[ah,agb];exact⟨mz yp,mz ym⟩
 |un=>rfl
 |any=>rfl
theorem aA.PB {σ':Gh}{s':List Obj} (iG:∀b,Own σ' s' b->Own σ s b)
  (hobj:∀id o,id<n->s[id]?=some o->∃o',s'[id]?=some o'/\o.g<=o'.g/\(o'.g=o.g->o'.sz=o.sz/\σ' id=σ id)) (hr:aA σ s w x u) (h:ah n x=true):aA σ' s' w x u:=by
 induction hr with
 |d hx=>exact .d (hx.own iG)
 |ag h1 h2 _ ih=>exact .ag h1 h2 λi x hx=>ih i x hx (dw (by simpa only[ah]using h) i x hx)
 |tu h1 _ ih=>exact .tu h1 λi x hx=>ih i x hx (dw (by simpa only[ah]using h) i x hx)
 |fu hx=>exact .fu (hx.own iG)
 |so o ho hg hu hk =>
  simp only[ah,decide_eq_true_eq]at h;obtain⟨o',h1,h2,h3⟩:=hobj _ o h ho;refine .so o' h1 (ag4 hg h2) hu λhe=>?_;have e:o'.g=o.g:=by omega
  have:=hk (by omega);unfold yN at this ⊢;rw[(h3 e).1,(h3 e).2];exact this
 |rf o ho hg hu hk =>
  simp only[ah,decide_eq_true_eq]at h;obtain⟨o',h1,h2,h3⟩:=hobj _ o h ho;refine .rf o' h1 (ag4 hg h2) hu λhe=>?_;have e:o'.g=o.g:=by omega
  rw[(h3 e).1,(h3 e).2];exact hk (by omega)
 |pp o ho hg hk =>
  simp only[ah,decide_eq_true_eq]at h;obtain⟨o',h1,h2,h3⟩:=hobj _ o h ho;refine .pp o' h1 (ag4 hg h2) λhe=>?_;have e:o'.g=o.g:=by omega
  rw[(h3 e).1,(h3 e).2];exact hk (by omega)
 |mp o ho hg hu hk =>
  simp only[ah,decide_eq_true_eq]at h;obtain⟨o',h1,h2,h3⟩:=hobj _ o h ho;refine .mp o' h1 (ag4 hg h2) hu λhe=>?_;have e:o'.g=o.g:=by omega
  rw[(h3 e).2];exact hk (by omega)
 |bx h1 h2 h3 hu _ ih=>exact .bx h1 h2 (λh'=>h3 (iG _ h')) hu (ih (by simpa only[ah]using h))
 |cap h1 _ ih=>exact .cap h1 (ih (by simpa only[ah]using h))
 |cl h1 _ h3 _ yp ym =>
  simp only[ah,agb]at h;exact .cl h1 (λi x hx=>yp i x hx (dw h.1 i x hx)) h3 (λi x hx=>ym i x hx (dw h.2 i x hx))
 |un=>exact .un
 |any=>exact .any
def si (σ:Gh) (h n:Nat):Gh:=⟨λk=>if k=h then σ n else if n<=k then none else σ k,σ.base⟩
theorem BS{h:Nat} (ZR:Inv σ0 s w0) (hE:aF σ0 s w0 σ1 (s++[o]) w1) (hI:Inv σ1 (s++[o]) w1) (hh:s[h]?=some ob) (Fv:o.live=true)
  (hd:∀(i j:Nat) (x:V),(o.aw[i]?.bind (·[j]?))=some x->ah 0 x=true\/ah s.length x=true) :
  aF σ0 s w0 (si σ1 h s.length) (s.set h ⟨ob.g+1,true,o.sz,o.aw⟩) w1/\Inv (si σ1 h s.length) (s.set h ⟨ob.g+1,true,o.sz,o.aw⟩) w1 /\
   ∀lo n u,aA σ1 (s++[o]) w1 (.so s.length o.g lo n) u->aA (si σ1 h s.length) (s.set h ⟨ob.g+1,true,o.sz,o.aw⟩) w1 (.so h (ob.g+1) lo n) u:=by
 have az:=fo hh;have z6:(s.set h ⟨ob.g+1,true,o.sz,o.aw⟩)[h]?=some ⟨ob.g+1,true,o.sz,o.aw⟩:=by simp [az]
 have mO:∀k,k≠h->(s.set h (⟨ob.g+1,true,o.sz,o.aw⟩:Obj))[k]?=s[k]?:=λk hk=>by rw[agp (λe=>hk e.symm)]
 have Ah:(s++[o])[s.length]?=some o:=by simp
 have hold:∀k ok,s[k]?=some ok->(s++[o])[k]?=some ok:=λk ok hk=>by rw[af2 (fo hk)];exact hk
 have gh:si σ1 h s.length h=σ1 s.length:=be rfl;have go:∀k ok,k≠h->s[k]?=some ok->si σ1 h s.length k=σ1 k:=λk ok hk hs=>by show (if k=h then _ else if s.length<=k then _ else _)=_;rw[ap hk,ap (by have:=fo hs;omega)]
 have iG:∀b,Own (si σ1 h s.length) (s.set h ⟨ob.g+1,true,o.sz,o.aw⟩) b->Own σ1 (s++[o]) b:=by
  rintro b (hb|⟨k,ok,base,h1,h2,h3⟩)
  ·exact .inl hb
  ·by_cases hk:k=h
   ·subst hk;rw[gh]at h3;exact .inr ⟨s.length,o,base,Ah,Fv,h3⟩
   ·rw[mO k hk]at h1;rw[go k ok hk h1]at h3;exact .inr ⟨k,ok,base,hold k ok h1,h2,h3⟩
 have hobj:∀id o1,id<s.length->(s++[o])[id]?=some o1->∃o',(s.set h ⟨ob.g+1,true,o.sz,o.aw⟩)[id]?=some o'/\o1.g<=o'.g/\(o'.g=o1.g->o'.sz=o1.sz/\si σ1 h s.length id=σ1 id):=by
  intro id o1 cS h1;rw[af2 cS]at h1;by_cases hk:id=h
  ·subst hk;rw[hh]at h1;cases h1;exact⟨_,z6,Nat.le_succ _,λhe=>by simp at he⟩
  ·exact⟨o1,by rw[mO id hk];exact h1,af3 _,λ_=>⟨rfl,go id o1 hk h1⟩⟩
 have AB:aF σ0 s w0 (si σ1 h s.length) (s.set h ⟨ob.g+1,true,o.sz,o.aw⟩) w1:=by refine⟨hE.os,hE.tape,hE.output,hE.size,hE.aY,hE.shape,hE.pN,λb hb=>hE.own b (iG b hb),λid o1 h1=>?_,hE.base,hE.fW⟩;obtain⟨o2,k1,k2,k3⟩:=hE.yk id o1 h1;have cS:=fo h1;obtain⟨o3,j1,j2,j3⟩:=hobj id o2 cS k1;exact⟨o3,j1,ag4 k2 j2,λhe=>⟨(j3 (by omega)).1.trans (k3 (by omega)).1,(j3 (by omega)).2.trans (k3 (by omega)).2⟩⟩
 have hrefs:∀(id:Nat) (o1:Obj),s[id]?=some o1->∀(i j:Nat) (x:V),(o1.aw[i]?.bind (·[j]?))=some x->ah s.length x=true:=by
  intro id o1 h1 i j x hx;rcases ZR.content id o1 h1 with (⟨_,he⟩|⟨b,es,c,_,_,he⟩)|⟨b,base,arr,E,_,_,_,_,h5⟩
  ·rw[he]at hx;simp at hx
  ·rw[he]at hx;unfold eR at hx;rw[afO]at hx;cases Eb:es.toList[i]? with
   |none=>rw[Eb]at hx;cases hx
   |some y =>
    rw[Eb]at hx;simp only[afV,agE]at hx
    match j with
    |0=>simp at hx;subst hx;rfl
    |1=>simp at hx;subst hx;rfl
    |j+2=>simp at hx
  ·obtain⟨u,_,_,h6⟩:=h5 i j x hx;exact h6.VA
 refine⟨AB,⟨?_,?_,hI.low,?_⟩,?_⟩
 ·intro id o1 h1;by_cases hk:id=h
  ·subst hk;rw[z6]at h1;cases h1;rw[gh];rcases hI.content _ _ Ah with hb|⟨b,base,arr,E,k1,k2,k3,k4,k5⟩
   ·exact .inl (hb.congr rfl)
   ·refine .inr ⟨b,base,arr,E,k1,k2,k3,k4,λi j x hx=>?_⟩;obtain⟨u,j1,j2,j3⟩:=k5 i j x hx;rcases hd i j x hx with Un|Un
    ·exact⟨u,j1,j2,j3.move Un iG⟩
    ·exact⟨u,j1,j2,aA.PB iG hobj j3 Un⟩
  ·rw[mO id hk]at h1;rw[go id o1 hk h1];rcases hI.content _ _ (hold id o1 h1) with hb|⟨b,base,arr,E,k1,k2,k3,k4,k5⟩
   ·exact .inl hb
   ·refine .inr ⟨b,base,arr,E,k1,k2,k3,k4,λi j x hx=>?_⟩;obtain⟨u,j1,j2,j3⟩:=k5 i j x hx;exact⟨u,j1,j2,aA.PB iG hobj j3 (hrefs id o1 h1 i j x hx)⟩
 ·intro k k' o1 o2 b base bI h1 h2 h3 h4 h5;by_cases hk:k=h <;> by_cases wB:k'=h
  ·rw[hk,wB]
  ·subst hk;rw[gh]at h4;rw[mO k' wB]at h2;rw[go k' o2 wB h2]at h5;have:=hI.inj _ _ _ _ _ _ _ Ah (hold k' o2 h2) Fv h4 h5;have:=fo h2;omega
  ·subst wB;rw[gh]at h5;rw[mO k hk]at h1;rw[go k o1 hk h1]at h4;have:=hI.inj _ _ _ _ _ _ _ (hold k o1 h1) Ah h3 h4 h5;have:=fo h1;omega
  ·rw[mO k hk]at h1;rw[mO k' wB]at h2;rw[go k o1 hk h1]at h4;rw[go k' o2 wB h2]at h5;exact hI.inj _ _ _ _ _ _ _ (hold k o1 h1) (hold k' o2 h2) h3 h4 h5
 ·intro k o1 b base h1 h2;by_cases hk:k=h
  ·subst hk;rw[gh]at h2;exact hI.apart _ _ _ _ Ah h2
  ·rw[mO k hk]at h1;rw[go k o1 hk h1]at h2;exact hI.apart _ _ _ _ (hold k o1 h1) h2
 ·intro lo n u hu;cases hu with|so o1 h1 h2 h3 h4=>?_
  rw[Ah]at h1;cases h1;refine .so _ z6 (af3 _) h3 λ_=>?_;have:=h4 rfl;unfold yN at this ⊢;rw[gh];exact this
theorem nE{h:Nat} (ZR:Inv σ0 s w0) (hE:aF σ0 s w0 σ1 (s++[o]) w1) (hI:Inv σ1 (s++[o]) w1) (hh:s[h]?=some ob) (Fv:o.live=true)
  (hd:∀(i j:Nat) (x:V),(o.aw[i]?.bind (·[j]?))=some x->ah 0 x=true) :
  aF σ0 s w0 (si σ1 h s.length) (s.set h ⟨ob.g+1,true,o.sz,o.aw⟩) w1/\Inv (si σ1 h s.length) (s.set h ⟨ob.g+1,true,o.sz,o.aw⟩) w1 /\
   ∀lo n u,aA σ1 (s++[o]) w1 (.so s.length o.g lo n) u->aA (si σ1 h s.length) (s.set h ⟨ob.g+1,true,o.sz,o.aw⟩) w1 (.so h (ob.g+1) lo n) u:=BS ZR hE hI hh Fv λi j x hx=>.inl (hd i j x hx)
theorem H6{e:TypeId}{i:O9}{g:Nat}{xv:V} (hI:Inv σ s w) (ha:aA σ s w (.so id g lo n) ua) (hc:QZ cl ch ua) (hx:aA σ s w xv ux) (wK:iy s xv=some ns)
  (hti:iN P t=some (e,i)) (ho:s[id]?=some o) (hg:o.g=g) (Im:o.sz=i.sz) (hz:∀e∈ns,e.length=i.sz) (cY:0<i.sz) (T9:0<ns.length) (hlo:lo+n<=o.aw.length) (sT:o.live=true) (hr:n+ns.length<=cl) :
  ∃r σ' w',(Builtin.append_ #[t,t] ty #[ua,ux]).run P w=.ok r w'/\aF σ s w σ' (s.set id ⟨g,true,i.sz,o.aw.take (lo+n)++ns++o.aw.drop (lo+n+ns.length)⟩) w' /\
   Inv σ' (s.set id ⟨g,true,i.sz,o.aw.take (lo+n)++ns++o.aw.drop (lo+n+ns.length)⟩) w'/\aA σ' (s.set id ⟨g,true,i.sz,o.aw.take (lo+n)++ns++o.aw.drop (lo+n+ns.length)⟩) w' (.so id g lo (n+ns.length)) r:=by
 obtain⟨hu,hi⟩:=kz hti;obtain⟨ti,d,z,k1,k2,k3,k4,k5,k6,k7,k8,k9⟩:=gL hi;have Kv:z.cells.size=i.sz:=by rw[<- ahj,k6,k7]
 obtain⟨ax,vE,rfl,CI,Vj,news,n1,n2,n3,n4⟩:=jr hI hx wK hz;have vd:Src P ti.size t (.slice ax ns.length vE) ns.length news w:=by
  rw[k4];cases ax with
  |none =>
   have:ns=[]:=CI rfl;subst this;simp at T9
  |some ad=>exact Src.ofSlice w hu ad ns.length vE news n1 (n3 ad rfl) n2
 obtain⟨Rl,Uk⟩:=ot hI;have fP:iy s (.so id g lo n)=some ((o.aw.drop lo).take n):=by simp [iy,ho,hg,hlo]
 have mX:((o.aw.drop lo).take n).length=n:=by simp;omega
 have Wc:∀e∈o.aw,e.length=i.sz:=by
  intro e zO;rcases hI.content _ o ho with h0|⟨b,base,arr,E,h1,h2,h3,h4,h5⟩
  ·cases ha with|so o' iY Dr Oy hk=>?_
   rw[ho]at iY;cases iY;rcases hk hg with ⟨qj,_⟩|⟨b,bs,cp,E,arr,ez,hh,_⟩
   ·rw[h0.GC qj]at zO;cases zO
   ·exact(h0.Ax ez ⟨arr,E,hh⟩).elim
  ·rw[<- Im];exact h3 e zO
 have SY:∀e∈(o.aw.drop lo).take n,e.length=i.sz:=λe he=>Wc e (List.mem_of_mem_drop (agJ he));obtain⟨base,cap,CX,a1,a2,lG,o1,o2,o3,o4⟩:=jr hI ha fP SY;rw[mX]at CX a2;cases ha with|so o' iY Dr Oy hk=>?_
 rw[ho]at iY;cases iY;have wB:=hk hg;have CT:n+ns.length<=cap:=by have:=(hc _ _ _ CX).1;omega
 rcases wB with ⟨qj,⟨aa,xf⟩,rfl,rfl⟩|⟨b,bs,cp,E,arr,ez,hh,xf,wH,hfit⟩
 ·rw[CX]at xf;simp only[Value.slice.injEq]at xf;omega
 rw[CX]at xf;simp only[Value.slice.injEq]at xf;obtain⟨rfl,_,rfl⟩:=xf;subst CX;generalize i.sz=Z at *;subst Im;obtain⟨bb,bs',aer,E2,q1,q2,q3,q4,q5⟩:∃b base arr E,σ id=some (b,base)/\w.heap[b]?=some (.cells arr E (0,0))/\(∀e∈o.aw,e.length=o.sz)/\base+o.aw.length*o.sz<=arr.size /\
   ∀i j x,(o.aw[i]?.bind (·[j]?))=some x->∃u,arr[base+i*o.sz+j]?=some u/\u.oneCell'=true/\aA σ s w x u:=by
  rcases hI.content _ o ho with h0|h0
  ·exact(h0.Ax ez ⟨arr,E,hh⟩).elim
  ·exact h0
 rw[ez]at q1;simp only[afY,agx]at q1;obtain⟨rfl,rfl⟩:=q1;rw[hh]at q2;simp only[afY,Go.Obj.cells.injEq]at q2;obtain⟨rfl,rfl,_⟩:=q2;generalize hS:bs+(lo+n)*o.sz=S at *;have Zu:bs+lo*o.sz+n*o.sz=S:=by rw[<- hS,agL];omega
 have hq:S+news.length<=arr.size:=by rw[n1,<- hS];have e1:(lo+cap)*o.sz=lo*o.sz+cap*o.sz:=agL _ _ _;have e2:=agw o.sz CT;rw[agL]at e2;rw[agL];omega
 have cI:=run_storeCells_at P b S E news 0 arr w hh (by omega) n2;simp only[ag0]at cI;generalize po:(arr.toList.take S++news++arr.toList.drop (S+news.length)).toArray=cf at cI;have jm:cf.size=arr.size:=by rw[<- po];simp;omega
 have hlS:(arr.toList.take S).length=S:=by simp;omega
 have az:∀p,p<S->cf[p]?=arr[p]?:=by intro p hp;rw[<- po,List.getElem?_toArray,agu,af2 (by simp;omega),agt,be hp,agI]
 have zH:∀q,q<news.length->cf[S+q]?=news[q]?:=by intro q Y9;rw[<- po,List.getElem?_toArray,agu,af6 (by omega),hlS,af2 (by omega)];congr 1;omega
 have Yz:∀p,S+news.length<=p->cf[p]?=arr[p]?:=by intro p hp;rw[<- po,List.getElem?_toArray,agu,af6 (by omega),hlS,af6 (by omega),agR,agI];congr 1;omega
 have K7:∀e∈o.aw.take (lo+n)++ns++o.aw.drop (lo+n+ns.length),e.length=o.sz:=by
  intro e he;rcases List.mem_append.1 he with he|he
  ·rcases List.mem_append.1 he with he|he
   ·exact Wc e (agJ he)
   ·exact hz e he
  ·exact Wc e (List.mem_of_mem_drop he)
 have U2:bs+(o.aw.take (lo+n)++ns++o.aw.drop (lo+n+ns.length)).length*o.sz<=arr.size:=by
  have hl:(o.aw.take (lo+n)++ns++o.aw.drop (lo+n+ns.length)).length=max (lo+n+ns.length) o.aw.length:=by simp only[af7,agN,List.length_drop];omega
  rw[hl];rcases Nat.le_total (lo+n+ns.length) o.aw.length with h'|h'
  ·rw[Nat.max_eq_right h'];exact q4
  ·rw[Nat.max_eq_left h'];have e3:(lo+n+ns.length)*o.sz<=(lo+cap)*o.sz:=agw _ (by omega);omega
 have:=ml (p:=some (b,bs)) (o':=⟨g,true,o.sz,o.aw.take (lo+n)++ns++o.aw.drop (lo+n+ns.length)⟩) (w':=w.setRow b cf) hI ho sT rfl rfl rfl (by simp)
  (λb1 _ cB=>setRow_other w b b1 cf (λe=>cB bs (by rw[ez,e])))
  (λb1 jU UK E1 he UA=>by
   rw[ez]at he;cases he;rw[hh]at UA;cases UA;exact⟨cf,setRow_heap w b arr cf E (0,0) hh,jm⟩)
  (λb1 jU he hm=>by
   rw[ez]at he;cases he;exact(Fs.notM ⟨arr,E,hh⟩ hm).elim)
  (by simp only;omega) (λ_=>⟨rfl,ez.symm⟩) (λb1 jU he=>by cases he;exact .inl ⟨bs,ez⟩)
  (λhE=>.inr ⟨b,bs,cf,E,rfl,setRow_heap w b arr cf E (0,0) hh,K7,by rw[jm];exact U2,λi' j y hy=>by
   simp only at hy ⊢;obtain⟨el,qX,hj⟩:∃el,(o.aw.take (lo+n)++ns++o.aw.drop (lo+n+ns.length))[i']?=some el/\el[j]?=some y:=by
    cases Y9:(o.aw.take (lo+n)++ns++o.aw.drop (lo+n+ns.length))[i']? with
    |none=>rw[Y9]at hy;cases hy
    |some el=>rw[Y9]at hy;exact⟨el,rfl,hy⟩
   have PD:j<o.sz:=by have:=(List.getElem?_eq_some_iff.1 hj).1;rwa [K7 el (afW qX)]at this
   have PU:(o.aw.take (lo+n)).length=lo+n:=by simp;omega
   by_cases c1:i'<lo+n
   ·rw[agu,af2 (by omega),agt,be c1]at qX;obtain⟨u,u1,u2,u3⟩:=q5 i' j y (by rw[qX];exact hj);have ju:(i'+1)*o.sz<=(lo+n)*o.sz:=agw _ (by omega);rw[agL,Nat.one_mul]at ju;exact⟨u,by rw[az _ (by omega)];exact u1,u2,u3.aX hE⟩
   ·by_cases c2:i'<lo+n+ns.length
    ·rw[agu,af6 (by omega),PU,af2 (by omega)]at qX;obtain⟨c,d1,d2,d3⟩:=n4 (i' - (lo+n)) j y (by rw[qX];exact hj);have hql:=(List.getElem?_eq_some_iff.1 d1).1;have Vf:bs+i'*o.sz+j=S+((i' - (lo+n))*o.sz+j):=by
      rw[<- hS,agM bs,<- agM bs,agM,agM];have:i'*o.sz=(lo+n)*o.sz+(i' - (lo+n))*o.sz:=by rw[<- agL];congr 1;omega
      omega
     exact⟨c,by rw[Vf,zH _ hql];exact d1,d2,d3.aX hE⟩
    ·rw[af6 (by simp only[af7,PU];omega),agR]at qX;have he2:o.aw[i']?=some el:=by rw[<- qX];congr 1;simp only[af7,PU];omega
     obtain⟨u,u1,u2,u3⟩:=q5 i' j y (by rw[he2];exact hj);have ju:(lo+n+ns.length)*o.sz<=i'*o.sz:=agw _ (by omega);rw[agL]at ju;exact⟨u,by rw[Yz _ (by rw[n1];omega)];exact u1,u2,u3.aX hE⟩⟩)
 have hup:mV σ id (some (b,bs)) id=some (b,bs):=bQ _ _ _;refine⟨.slice (some ⟨b,bs+lo*o.sz,none⟩) (n+ns.length) cap,_,w.setRow b cf,?_,this.1,this.2,?_⟩
 ·have lU:=vd.cells;rw[k4]at lU;rw[<- Zu]at cI;simp [Builtin.append_,run_underlying hu,sizeOf,typeInfo,k1,Builtin.lenOf,CT,lU,k4,Addr.add_lit,cI]
 ·exact .so ⟨g,true,o.sz,o.aw.take (lo+n)++ns++o.aw.drop (lo+n+ns.length)⟩ (by simp [(List.getElem?_eq_some_iff.1 ho).1]) (af3 _) ⟨_,_,rfl⟩
   (λ_=>.inr ⟨b,bs,cap,E,cf,hup,setRow_heap w b arr cf E (0,0) hh,rfl,CT,by rw[jm];exact hfit⟩)
theorem HH{e:TypeId}{i:O9}{g:Nat}{xv:V} (hI:Inv σ s w) (ha:aA σ s w (.so id g lo n) ua) (hc:QZ cl ch ua) (hx:aA σ s w xv ux) (wK:iy s xv=some ns)
  (hti:iN P t=some (e,i)) (ho:s[id]?=some o) (hg:o.g=g) (Im:o.sz=i.sz) (hz:∀e∈ns,e.length=i.sz) (cY:0<i.sz) (T9:0<ns.length) (hlo:lo+n<=o.aw.length) (Yp:0<i.Cs) (hb:(n+ns.length)*i.Cs<=140737488355328) (hr:ch<n+ns.length) :
  ∃r σ' w',(Builtin.append_ #[t,t] ty #[ua,ux]).run P w=.ok r w'/\aF σ s w σ' (s++[⟨0,true,i.sz,(o.aw.drop lo).take n++ns⟩]) w' /\
   Inv σ' (s++[⟨0,true,i.sz,(o.aw.drop lo).take n++ns⟩]) w'/\aA σ' (s++[⟨0,true,i.sz,(o.aw.drop lo).take n++ns⟩]) w' (.so s.length 0 0 (n+ns.length)) r:=by
 obtain⟨hu,hi⟩:=kz hti;obtain⟨ti,d,z,k1,k2,k3,k4,k5,k6,k7,k8,k9⟩:=gL hi;have Kv:z.cells.size=i.sz:=by rw[<- ahj,k6,k7]
 obtain⟨ax,vE,rfl,CI,Vj,news,n1,n2,n3,n4⟩:=jr hI hx wK hz;have vd:Src P ti.size t (.slice ax ns.length vE) ns.length news w:=by
  rw[k4];cases ax with
  |none =>
   have:ns=[]:=CI rfl;subst this;simp at T9
  |some ad=>exact Src.ofSlice w hu ad ns.length vE news n1 (n3 ad rfl) n2
 obtain⟨Rl,Uk⟩:=ot hI;have fP:iy s (.so id g lo n)=some ((o.aw.drop lo).take n):=by simp [iy,ho,hg,hlo]
 have mX:((o.aw.drop lo).take n).length=n:=by simp;omega
 have Wc:∀e∈o.aw,e.length=i.sz:=by
  intro e zO;rcases hI.content _ o ho with h0|⟨b,base,arr,E,h1,h2,h3,h4,h5⟩
  ·cases ha with|so o' iY Dr Oy hk=>?_
   rw[ho]at iY;cases iY;rcases hk hg with ⟨qj,_⟩|⟨b,bs,cp,E,arr,ez,hh,_⟩
   ·rw[h0.GC qj]at zO;cases zO
   ·exact(h0.Ax ez ⟨arr,E,hh⟩).elim
  ·rw[<- Im];exact h3 e zO
 have SY:∀e∈(o.aw.drop lo).take n,e.length=i.sz:=λe he=>Wc e (List.mem_of_mem_drop (agJ he));obtain⟨base,cap,CX,a1,a2,lG,o1,o2,o3,o4⟩:=jr hI ha fP SY;rw[mX]at CX a2;cases ha with|so o' iY Dr Oy hk=>?_
 rw[ho]at iY;cases iY;have wB:=hk hg;have Av:cap<n+ns.length:=by have:=(hc _ _ _ CX).2;omega
 have hold:(Builtin.firstCells ti.size n (.slice base n cap)).run P w.drew=.ok lG.toArray w.drew:=by
  rw[k4];cases base with
  |none =>
   have he:(o.aw.drop lo).take n=[]:=a1 rfl;rw[he]at o1 mX;have gp:n=0:=by simpa using mX.symm
   have hn:lG=[]:=ago (by simpa using o1);subst gp hn;exact run_firstCells_none w.drew i.sz 0 0 cap
  |some ad=>exact run_firstCells_some w.drew i.sz n ad n cap lG (by rw[o1,mX]) (by simpa using o3 ad rfl)
 have hle:n+ns.length<=(n+ns.length)*i.Cs:=Nat.le_mul_of_pos_right _ Yp;have eu:=run_append_grow_src (P:=P) w t t ty e ti z hu k1 k3 base n cap lG hold (.slice ax ns.length vE) ns.length news vd Av (by omega) (growslice_fits Av (by rw[k5];exact hb));have fI:=grownCap_ge w (n+ns.length) cap e;subst CX;generalize grownCap w (n+ns.length) cap e=nW at *;have fF:((lG++news).toArray++Builtin.zeroCells z.cells (nW - (n+ns.length))).size=nW*i.sz:=by simp only[Array.size_append,List.size_toArray,size_zeroCells,af7,o1,n1,Kv,mX];rw[<- agL,<- agL];congr 1;omega
 have ep:∀(i' j:Nat) (y:V),(((o.aw.drop lo).take n++ns)[i']?.bind (·[j]?))=some y->∃c,((lG++news).toArray++Builtin.zeroCells z.cells (nW - (n+ns.length)))[i'*i.sz+j]?=some c/\c.oneCell'=true/\aA σ s w y c:=by intro i' j y hy;obtain⟨c,c1,c2,c3⟩:=sZ o1 o4 n4 i' j y hy;exact⟨c,EP c1,c2,c3⟩
 generalize (lG++news).toArray++Builtin.zeroCells z.cells (nW - (n+ns.length))=arr at *;have:=qZ (aw:=(o.aw.drop lo).take n++ns) (sz:=i.sz) (arr:=arr) Uk e (λe he=>(List.mem_append.1 he).elim (SY e) (hz e)) (by rw[fF,af7,mX];exact agw _ fI)
  (λi' j y hy=>let ⟨c,c1,c2,c3⟩:=ep i' j y hy;⟨c,c1,c2,c3.aX Rl⟩)
 refine⟨_,_,_,eu,Rl.trans this.1,this.2,?_⟩;exact .so ⟨0,true,i.sz,(o.aw.drop lo).take n++ns⟩ (by simp) (af3 _) ⟨_,_,rfl⟩ (λ_=>.inr ⟨w.heap.size,0,nW,e,arr,bQ _ _ _,heap_alloc_new w.drew _,by simp,fI,by simp [fF]⟩)
end Go.VL
