/- A part of the proof. -/
import Derived.Test.YtjjfioalgbecmaaGreatOA7
set_option linter.unusedSimpArgs false
set_option linter.unusedVariables false
set_option maxRecDepth 100000
set_option maxHeartbeats 80000000
namespace Go.VL
variable{c:Prop}{X:(V->Prop)->Prop}{s:List Obj}
def kB (X:(V->Prop)->Prop):Prop:=∀K,X K->∃v,X (λv'=>v'=v)/\K v
def qZ (X:(V->List Obj->Prop)->Prop):Prop:=∀K,X K->∃v s,X (λv' s'=>v'=v/\s'=s)/\K v s
theorem vC {agg n cs}:kB (qS agg n cs):=by
 intro K h;unfold qS at *;cases agg with
 |true=>exact⟨_,⟨h.1,rfl⟩,h.2⟩
 |false =>
  cases cs with
  |nil=>exact h.2.elim
  |cons v l=>exact⟨v,⟨h.1,rfl⟩,h.2⟩
theorem nL {s id g}{F:Obj->(V->Prop)->Prop} (hF:∀o,kB (F o)):kB λK=>wq s id g λo=>F o K:=by
 intro K h;unfold wq at *;cases hs:s[id]? with
 |none=>rw[hs]at h;exact h.elim
 |some o =>
  simp only[hs]at h ⊢;obtain⟨v,h1,h2⟩:=hF o K h.2;exact⟨v,⟨h.1,h1⟩,h2⟩
theorem EU {s id g}{F:Obj->(V->List Obj->Prop)->Prop} (hF:∀o,qZ (F o)):qZ λK=>wq s id g λo=>F o K:=by
 intro K h;unfold wq at *;cases hs:s[id]? with
 |none=>rw[hs]at h;exact h.elim
 |some o =>
  simp only[hs]at h ⊢;obtain⟨v,s1,h1,h2⟩:=hF o K h.2;exact⟨v,s1,⟨h.1,h1⟩,h2⟩
theorem bz {v:V}:kB λK=>K v:=λ_ h=>⟨v,rfl,h⟩
theorem aN:kB λ_=>False:=λ_ h=>h.elim
theorem ck (h:kB X):kB λK=>c/\X K:=λK hk =>
 let ⟨v,h1,h2⟩:=h K hk.2
 ⟨v,⟨hk.1,h1⟩,h2⟩
theorem dj {v:V}:qZ λK=>K v s:=λ_ h=>⟨v,s,⟨rfl,rfl⟩,h⟩
theorem bf:qZ λ_=>False:=λ_ h=>h.elim
theorem cX{X:(V->List Obj->Prop)->Prop} (h:qZ X):qZ λK=>c/\X K:=λK hk =>
 let ⟨v,s,h1,h2⟩:=h K hk.2
 ⟨v,s,⟨hk.1,h1⟩,h2⟩
theorem gj (h:kB X):qZ λK=>X λv=>K v s:=by intro K hk;obtain⟨v,h1,h2⟩:=h _ hk;refine⟨v,s,?_,h2⟩;simpa using h1
theorem Nl {P t s p}:kB (mA P t s p):=by
 unfold mA;cases bW P t with
 |none=>exact aN
 |some i =>
  simp only;cases p with
  |d x =>
   cases x with
   |el cs=>exact vC
   |_=>exact aN
  |rf id g k off =>
   exact ZbS
  |pp id g k off b a =>
   exact ZbS
  |bx v=>exact vC
  |_=>exact aN
theorem CE {P t s p f}:kB (fm P t s p f):=by
 unfold fm;cases aO P t f with
 |none=>exact aN
 |some i =>
  simp only;split
  ·exact bz
  ·exact nL λ_=>bz
  ·exact nL λ_=>bz
  ·exact bz
  ·exact aN
theorem Py {aA i z}:kB (YL aA i z):=by
 unfold YL;cases aA[i]? with
 |none=>exact aN
 |some cs=>exact ck bz
theorem Cz {P t s x i}:kB (dZ P t s x i):=by
 unfold dZ;split
 ·split
  ·split
   ·exact ck (ck Py)
   ·exact ck (ck Py)
   ·exact nL λ_=>ck (ck (ck bz))
   ·exact aN
  ·split
   ·split
    ·exact ck (ck bz)
    ·exact nL λ_=>ck (ck bz)
    ·exact aN
   ·exact aN
 ·exact aN
theorem Ds {P t cs off}:kB (uA P t cs off):=by
 unfold uA;cases bW P t with
 |none=>exact aN
 |some i =>
  simp only;cases i.agg with
  |true=>exact ck bz
  |false =>
   simp only;cases cs[off]? with
   |none=>exact aN
   |some v=>exact bz
theorem MN {P t x f}:kB (nJ P t x f):=by
 unfold nJ;split
 ·split
  ·split
   ·exact Ds
   ·exact aN
  ·exact aN
 ·exact aN
theorem Lu {P t x i}:kB (kP P t x i):=by
 unfold kP;split
 ·split
  ·split
   ·split
    ·exact ck (ck Ds)
    ·exact aN
   ·exact aN
  ·exact aN
 ·exact aN
theorem Lm {P t parts}:kB (qK P t parts):=by
 unfold qK;split
 ·exact aN
 ·split
  ·exact Zcy
  ·exact Zej
theorem MI {P t s}:qZ (qJ P t s):=by
 unfold qJ;split
 ·exact bf
 ·exact dj
theorem QT {s x}:qZ (B9 s x):=by
 unfold B9;split
 ·exact bf
 ·exact dj
theorem AA {P t len parts s}:qZ (fh P t len parts s):=by
 unfold fh;split
 ·exact bf
 ·refine cX ?_;split
  ·exact bf
  ·split
   ·exact dj
   ·exact dj
theorem CG {P t l c s}:qZ (gR P t l c s):=by
 unfold gR;split
 ·exact bf
 ·split
  ·exact cX dj
  ·exact bf
theorem Ju {P t a x s}:qZ (dN P t a x s):=by
 unfold dN;split
 ·exact bf
 ·split
  ·exact bf
  ·refine cX ?_;split
   ·split
    ·exact cX dj
    ·exact cX dj
   ·exact EU λ_=>cX dj
   ·exact bf
theorem F3 {P t t' a x s}:qZ (lr P t t' a x s):=by
 unfold lr;split
 ·exact bf
 ·split
  ·split
   ·exact cX dj
   ·exact bf
  ·exact bf
theorem RW {P t x}:kB (MH P t x):=by
 unfold MH;exact Zej
theorem FV {P t x lo hi mx}:kB (m6 P t x lo hi mx):=by
 unfold m6;split
 ·exact aN
 ·split
  ·exact ck bz
  ·exact aN
theorem Kg {P t x lo hi mx s}:kB (lX P t x lo hi mx s):=by
 unfold lX;split
 ·exact FV
 ·split
  ·exact aN
  ·split
   ·refine ck ?_;split
    ·exact ck bz
    ·exact ck bz
    ·exact ck (ck (ck bz))
    ·refine nL λ_=>ck ?_;split
     ·exact bz
     ·exact bz
    ·exact aN
   ·exact aN
theorem Sh {P t x s}:kB (mj P t x s):=by
 unfold mj;split
 ·split
  ·exact bz
  ·exact bz
  ·exact bz
  ·exact aN
 ·exact Zcy
 ·exact aN
theorem RS {op k a b}:kB (fy op k a b):=by unfold fy;split <;> first|exact bz|exact ck bz|exact aN|(split <;> first|exact bz|exact ck bz|exact aN)
theorem LY {P op t xs ys}:kB (jU P op t xs ys):=by
 unfold jU;split
 ·refine ck ?_;exact ZdG
 ·refine ck ?_;exact ZdG
 ·exact aN
theorem Om {P op t s x y}:kB (dM P op t s x y):=by unfold dM;split <;> first|exact LY|exact ck RS|exact aN|(refine ck ?_;split <;> first|exact bz|exact aN)|(refine ck (ck ?_);split <;> first|exact bz|exact aN)|(split <;> first|exact bz|exact aN)
theorem RD {P op t s x y}:kB (qR P op t s x y):=by
 unfold qR;split
 ·unfold tj;split
  ·exact ck bz
  ·exact aN
 ·exact Om
theorem Lb {P op t s x}:kB (eJ P op t s x):=by unfold eJ;refine ck (ck ?_);split <;> first|exact bz|exact aN|exact nL λ_=>bz
theorem Ur {op x}:kB (CF op x):=by unfold CF;split <;> first|exact bz|exact aN
theorem Nn {P a b x}:kB (qV P a b x):=by
 unfold qV;split
 ·exact ZdG
 ·exact aN
theorem sT {mn}:∀(ys:List V) (acc:V),kB (fG mn acc ys)
 |[],acc=>bz
 |y::ys,acc=>by
  intro K h;unfold fG at h;split at h
  ·obtain⟨v,h1,h2⟩:=sT ys _ K h;exact⟨v,by unfold fG;exact h1,h2⟩
  ·exact h.elim
theorem RH {s x}:kB (kg s x):=by
 unfold kg;split
 ·exact bz
 ·exact nL λ_=>bz
 ·exact nL λ_=>bz
 ·exact bz
 ·exact bz
 ·exact aN
theorem Q6 {x i}:kB (zC x i):=by
 unfold zC;exact Zej
theorem Ly {x a b s}:qZ λK=>iH x (K a s) (K b s):=by
 unfold iH;split
 ·rename_i b';cases b' with
  |true=>intro K h;exact⟨a,s,aq,h.1 rfl⟩
  |false=>intro K h;exact⟨b,s,aq,h.2 rfl⟩
 ·exact bf
theorem Mi {P t s p x}:qZ λK=>iU P t s p x λs'=>K .un s':=by
 unfold iU;split
 ·exact bf
 ·split
  ·exact Zcd
  ·exact Zcd
  ·exact bf
theorem Oq {P t a x s}:qZ (xN P t a x s):=by
 unfold xN;split
 ·exact bf
 ·split
  ·exact bf
  ·refine cX ?_;split
   ·exact ZdH
   ·exact bf
theorem JX {P t x s}:qZ (lW P t x s):=by
 unfold lW;split
 ·exact bf
 ·split
  ·exact ZdH
  ·exact dj
  ·exact bf
theorem Ky {P t s m k}:kB (qH P t s m k):=by
 unfold qH;split
 ·exact aN
 ·exact Zcs
theorem N9 {P t s m k x}:qZ λK=>DV P t s m k x λs'=>K .un s':=by
 unfold DV;split
 ·exact bf
 ·exact ZbV
theorem I3 {P t s m k}:kB (jP P t s m k):=by
 unfold jP;split
 ·exact Ky
 ·exact Zcs
theorem GU {P t s m k x}:qZ λK=>xC P t s m k x λs'=>K .un s':=by
 unfold xC;split
 ·exact N9
 ·exact ZbV
theorem Gw {P t r s}:qZ (oR P t r s):=cX dj
def NN (o:Oper):Bool :=
 match o.op with
 |.call c=>match c.callee with
  |.value _=>true
  |_=>false
 |_=>false
theorem Ny {P o e s} (hc:NN o=false):qZ (du P o e s):=by
 obtain⟨dst,op,ty,pos,after,guard⟩:=o;unfold du;cases op <;> simp only
 case move=>exact dj
 case assign=>exact dj
 case pick=>exact Ly
 case alloc=>exact MI
 case box=>exact QT
 case build=>exact gj Lm
 case buildSlice=>exact AA
 case load=>exact gj Nl
 case store=>exact Mi
 case nilCheck=>exact gj RH
 case binOp op t x y t' =>
  cases Tb y with
  |true=>exact gj Lb
  |false=>exact gj RD
 case unOp=>exact gj Ur
 case convert=>exact gj Nn
 case makeFunc=>exact dj
 case makeSlice=>exact CG
 case slice=>exact gj Kg
 case fieldAddr=>exact gj CE
 case field=>exact gj MN
 case indexAddr=>exact gj Cz
 case index=>exact gj Lu
 case extract=>exact gj Q6
 case makeMap=>exact Gw
 case lookup t x i ok =>
  cases ok with
  |true=>exact bf
  |false=>exact gj I3
 case mapUpdate=>exact GU
 case insert=>exact GU
 case call c =>
  unfold iB;simp only[NN]at hc;split
  ·rename_i h;rw[h]at hc;cases hc
  ·rename_i h;rw[h]at hc;cases hc
  ·split
   ·exact gj Sh
   ·split
    ·exact Ju
    ·exact F3
   ·exact cX Oq
   ·exact JX
   ·exact gj (sT _ _)
   ·exact gj (sT _ _)
   ·exact gj RW
   ·exact bf
  ·exact bf
 all_goals exact bf
def gG:V->List Nat
 |.rf id _ _ _=>[id]
 |.pp id _ _ _ _ _=>[id]
 |.so id _ _ _=>[id]
 |.mp id _=>[id]
 |_=>[]
def tH (e:Env) (o:Oper):List Nat :=
 match o.op with
 |.move _|.assign _|.pick ..|.build ..|.buildSlice ..|.makeFunc ..=>[]
 |.load _ a=>gG (xw (e 0) (ev e a))
 |.call ⟨.builtin .len,_,_⟩=>[]
 |_=>o.op.operands.toList.flatMap λx=>gG (ev e x)
def R6 (o:Oper):Bool :=
 match o.op with
 |.move _|.assign _|.pick ..|.build ..|.buildSlice ..|.load ..|.nilCheck _|.binOp ..|.unOp ..|.convert ..|.makeFunc ..|.slice ..|.fieldAddr ..|.field ..|.indexAddr ..|.index ..|.extract ..|.lookup ..=>true
 |.call c=>match c.callee with
  |.builtin .len=>true
  |.builtin .min=>true
  |.builtin .max=>true
  |.builtin .append=>true
  |_=>false
 |_=>false
section
variable {P:Program}{s s':List Obj}
variable{id:Nat}{p:V}{t:TypeId}{op:BinOp}{x:V}{v:V}
theorem gJ {g:Nat} (h:s'[id]?=s[id]?) (K:Obj->Prop):wq s id g K=wq s' id g K:=by unfold wq;rw[h]
theorem JL (h:∀id∈gG p,s'[id]?=s[id]?) (K:V->Prop):mA P t s p K=mA P t s' p K:=by
 unfold mA;cases bW P t with
 |none=>rfl
 |some i =>
  cases p with
  |rf id g k off=>simp only[h id (by simp [gG])]
  |pp id g k off b a=>simp only[h id (by simp [gG])]
  |d x=>cases x <;> rfl
  |_=>rfl
theorem Am{f:Nat} (h:∀id∈gG p,s'[id]?=s[id]?) (K:V->Prop):fm P t s p f K=fm P t s' p f K:=by
 unfold fm;cases aO P t f with
 |none=>rfl
 |some d =>
  cases p with
  |rf id g k off=>simp only[gJ (h id (by simp [gG]))]
  |pp id g k off b a=>simp only[gJ (h id (by simp [gG]))]
  |d x=>simp only;split <;> first|rfl|(rename_i he;cases he)
  |_=>rfl
theorem Ap{i:V} (h:∀id∈gG p,s'[id]?=s[id]?) (K:V->Prop):dZ P t s p i K=dZ P t s' p i K:=by
 unfold dZ;split
 ·split
  ·exact Zcp
  ·split
   ·cases p with
    |rf id g k off=>simp only[gJ (h id (by simp [gG]))]
    |d x=>cases x <;> rfl
    |_=>rfl
   ·rfl
 ·rfl
theorem Mt (K:V->Prop):mj P t p s K=mj P t p s' K:=by
 unfold mj;split
 ·cases p with
  |so id g lo n=>rfl
  |d x=>cases x <;> rfl
  |_=>rfl
 ·rfl
 ·rfl
theorem Gn{k:V} (h:∀id∈gG p,s'[id]?=s[id]?) (K:V->Prop):qH P t s p k K=qH P t s' p k K:=by
 unfold qH;cases D9 P t with
 |none=>rfl
 |some ik =>
  exact Zde
theorem ER{k:V} (h:∀id∈gG p,s'[id]?=s[id]?) (K:V->Prop):jP P t s p k K=jP P t s' p k K:=by
 unfold jP;cases KW P t with
 |none=>exact Gn h K
 |some ik =>
  exact Zde
theorem KV (h:∀id∈gG p,s'[id]?=s[id]?) (K:V->Prop):kg s p K=kg s' p K:=by
 cases p with
 |rf id g k off=>simp only[kg,gJ (h id (by simp [gG]))]
 |pp id g k off b a=>simp only[kg,gJ (h id (by simp [gG]))]
 |d x=>unfold kg;split <;> first|rfl|(rename_i he;cases he)
 |cl f a b=>cases f <;> rfl
 |_=>rfl
theorem Fh (h:∀id∈gG p,s'[id]?=s[id]?):jl s p=jl s' p:=by
 unfold jl;cases p with
 |so id g lo n=>simp only[h id (by simp [gG])]
 |d x=>cases x <;> rfl
 |_=>rfl
theorem GL{lo hi mx:Option V} (h:∀id∈gG p,s'[id]?=s[id]?) (K:V->Prop):lX P t p lo hi mx s K=lX P t p lo hi mx s' K:=by
 unfold lX;rw[Fh h];split
 ·rfl
 ·split
  ·rfl
  ·split
   ·congr 1;cases mx with
    |none =>
     exact Zcp
    |some m =>
     cases p with
     |d x=>cases x <;> rfl
     |_=>rfl
   ·rfl
theorem GF (h:∀id∈gG p,s'[id]?=s[id]?) (K:V->Prop):eJ P op t s p K=eJ P op t s' p K:=by
 unfold eJ;cases p with
 |so id g lo n=>cases n <;> simp only[gJ (h id (by simp [gG]))]
 |d x=>cases x with
  |sl aA=>cases aA <;> rfl
  |_=>rfl
 |fu aA=>cases aA <;> rfl
 |_=>rfl
theorem B8 (h:∀id∈gG p,s'[id]?=s[id]?):qs s p=qs s' p:=by
 unfold qs;cases p with
 |rf id g k off=>simp only[gJ (h id (by simp [gG]))]
 |pp id g k off b a=>simp only[gJ (h id (by simp [gG]))]
 |d x=>cases x <;> rfl
 |_=>rfl
theorem Jd{y:V} (h:∀id∈gG x,s'[id]?=s[id]?) (h':∀id∈gG y,s'[id]?=s[id]?) (K:V->Prop):dM P op t s x y K=dM P op t s' x y K:=by unfold dM;split <;> simp only[B8 h,B8 h']
theorem MB{y:V} (h:∀id∈gG x,s'[id]?=s[id]?) (h':∀id∈gG y,s'[id]?=s[id]?) (K:V->Prop):qR P op t s x y K=qR P op t s' x y K:=by
 unfold qR;split
 ·rfl
 ·exact Jd h h' K
theorem aao {s:List Obj}{o n:Obj} (ho:s[id]?=some o) (hn:n.g≠o.g):s.set id n≠s:=by intro h;have h1:=List.getElem?_set_self (a:=n) (List.getElem?_eq_some_iff.1 ho).1;rw[h,ho]at h1;cases h1;exact hn rfl
theorem Mb{a:V} (h:∀id∈gG a,s'[id]?=s[id]?) (h':∀id∈gG x,s'[id]?=s[id]?) (hw:dN P t a x s λv' s1=>v'=v/\s1=s):dN P t a x s' λv' s1=>v'=v/\s1=s':=by
 unfold dN at hw ⊢;rw[Fh h']at hw;split at hw
 ·exact hw.elim
 rename_i i hi;split at hw
 ·exact hw.elim
 rename_i ns yS;refine⟨hw.1,?_⟩;have hw:=hw.2;split at hw
 ·split at hw
  ·exact⟨hw.1,hw.2.1,rfl⟩
  ·exact absurd (congrArg List.length hw.2.2) aq
 ·exfalso;obtain⟨o,ho,hg,⟨_,_,hs⟩⟩:=eT hw;exact aao ho oE hs
 ·exact hw.elim
theorem GC {t':TypeId}{a:V} (hw:lr P t t' a x s λv' s1=>v'=v/\s1=s):False:=by
 unfold lr at hw;split at hw
 ·exact hw
 ·split at hw
  ·split at hw
   ·exact absurd (congrArg List.length hw.2.2) aq
   ·exact hw
  ·exact hw
theorem KR {o:Oper}{e:Env} (hr:R6 o=true) (h:∀id∈tH e o,s'[id]?=s[id]?) (hw:du P o e s λv' s1=>v'=v/\s1=s):du P o e s' λv' s1=>v'=v/\s1=s':=by
 obtain⟨dst,op,ty,pos,after,guard⟩:=o;have rd:(tH e ⟨dst,op,ty,pos,after,guard⟩=op.operands.toList.flatMap λx=>gG (ev e x))->∀x∈op.operands.toList,∀id∈gG (ev e x),s'[id]?=s[id]?:=λhe x hx id dA=>h id (by rw[he];exact List.mem_flatMap.2 ⟨x,hx,dA⟩);unfold du at hw ⊢;cases op <;> simp only[R6,alk]at hr <;> simp only at hw ⊢
 case move=>exact hw
 case assign=>exact hw
 case pick=>simpa using hw
 case build=>exact hw
 case buildSlice =>
  unfold fh at hw ⊢;split at hw
  ·exact hw.elim
  ·refine⟨hw.1,?_⟩;have hw:=hw.2;split at hw
   ·exact hw.elim
   ·split at hw
    ·exact⟨hw.1,rfl⟩
    ·exact absurd (congrArg List.length hw.2) aq
 case load t a=>rw[JL (λid dA=>h id (by simpa [tH]using dA))]at hw;exact hw
 case nilCheck a=>rw[KV (rd rfl a (by simp [Op.operands]))]at hw;exact hw
 case binOp op t x y t' =>
  cases hn:Tb y with
  |true=>rw[hn]at hw;simp only[cond_true]at hw ⊢;rw[GF (rd rfl x (by simp [Op.operands]))]at hw;exact hw
  |false=>rw[hn]at hw;simp only[cond_false]at hw ⊢;rw[MB (rd rfl x (by simp [Op.operands])) (rd rfl y (by simp [Op.operands]))]at hw;exact hw
 case unOp=>exact hw
 case convert=>exact hw
 case makeFunc=>exact hw
 case slice t x lo hi mx=>rw[GL (rd rfl x (by simp [Op.operands]))]at hw;exact hw
 case fieldAddr t x f=>rw[Am (rd rfl x (by simp [Op.operands]))]at hw;exact hw
 case field=>exact hw
 case indexAddr t x i=>rw[Ap (rd rfl x (by simp [Op.operands]))]at hw;exact hw
 case index=>exact hw
 case extract=>exact hw
 case lookup t x i ok =>
  cases ok with
  |true=>exact hw.elim
  |false=>simp only[cond_false]at hw ⊢;rw[ER (rd rfl x (by simp [Op.operands]))]at hw;exact hw
 case call c =>
  obtain⟨callee,args,argTypes⟩:=c;cases callee with
  |value f=>cases hr
  |invoke r m=>cases hr
  |builtin b =>
   unfold iB at hw ⊢;simp only at hw ⊢ hr;split at hw
   ·rename_i x t ha ht;rw[Mt (s':=s')]at hw;exact hw
   ·rename_i a x t t' ha ht;split at hw
    ·rename_i htt;rw[be htt];exact Mb (rd rfl a (by simp [Op.operands,Call.operands,ha])) (rd rfl x (by simp [Op.operands,Call.operands,ha])) hw
    ·exact(GC hw).elim
   ·first|(cases hr;done)|(simp at hr;done)
   ·first|(cases hr;done)|(simp at hr;done)
   ·exact hw
   ·exact hw
   ·first|exact hw|(cases hr;done)|(simp at hr;done)
   ·exact hw.elim
end
variable{lL:Nat}{o:Obj}{id:Nat}{s:List Obj}{σ:Gh}{w:World}{P:Program}{u:Value}{x:V}{e:Env}{L:Nat}{n:Nat}{w0:World}{σ0:Gh}{w1:World}{ob:Obj}{σ1:Gh}{ux:Value}{cl:Nat}{ua:Value}{lo:Nat}{ns:List (List V)}{ty:TypeId}{t:TypeId}{ch:Nat}
def bU (s:List Obj) (id:Nat):List Obj :=
 match s[id]? with
 |some o=>s.set id { o with live:=false }
 |none=>s
def bI (s:List Obj):List Nat->List Obj
 |[]=>s
 |id::ids=>bI (bU s id) ids
theorem j0 (h:(bU s id)[lL]?=some o):∃o',s[lL]?=some o'/\o.g=o'.g/\o.sz=o'.sz/\o.aA=o'.aA/\(o.live=true->o'.live=true):=by
 unfold bU at h;split at h
 ·rename_i o0 ho0;rw[List.getElem?_set]at h;split at h
  ·rename_i he;subst he;split at h
   ·simp only[alb]at h;subst h;exact⟨o0,ho0,rfl,rfl,rfl,λh=>by cases h⟩
   ·cases h
  ·exact⟨o,h,rfl,rfl,rfl,λh=>h⟩
 ·exact⟨o,h,rfl,rfl,rfl,λh=>h⟩
theorem U2 (h:s[lL]?=some o):∃o',(bU s id)[lL]?=some o'/\o'.g=o.g/\o'.sz=o.sz:=by
 unfold bU;split
 ·rename_i o0 ho0;rw[List.getElem?_set];split
  ·rename_i he;subst he;rw[ho0]at h;cases h;rw[be (List.getElem?_eq_some_iff.1 ho0).1];exact⟨_,rfl,rfl,rfl⟩
  ·exact⟨o,h,rfl,rfl⟩
 ·exact⟨o,h,rfl,rfl⟩
theorem u7 (hI:Inv σ s w) (id:Nat):aK σ s w σ (bU s id) w/\Inv σ (bU s id) w:=by
 have own:∀b,Own σ (bU s id) b->Own σ s b:=by
  rintro b (h|⟨lL,o,base,h1,h2,h3⟩)
  ·exact .inl h
  ·obtain⟨o',k1,_,_,_,k5⟩:=j0 h1;exact .inr ⟨lL,o',base,k1,k5 h2,h3⟩
 have hE:aK σ s w σ (bU s id) w:=⟨rfl,rfl,rfl,ale _,λ_ _ _=>rfl,λ_ arr _ _ h=>⟨arr,h,rfl⟩,λ_ _ h=>h,λb h=>.inl (own b h),
  λlL o ho=>let ⟨o',k1,k2,k3⟩:=U2 (id:=id) ho;⟨o',k1,ae,λ_=>⟨k3,rfl⟩⟩,rfl,λ_ _ _=>rfl⟩
 refine⟨hE,⟨λlL o ho=>?_,λi i' o o' b base bT h1 h2 h3 h4 h5=>?_,hI.low,λi o b base h1 h2=>?_⟩⟩
 ·obtain⟨o',k1,_,k3,k4,_⟩:=j0 ho;rw[k4,k3];rcases hI.content lL o' k1 with h|⟨b,base,arr,E,h1,h2,h3,h4,h5⟩
  ·exact .inl (h.congr k4)
  ·exact .inr ⟨b,base,arr,E,h1,h2,h3,h4,λi j x hx=>let ⟨u,g1,g2,g3⟩:=h5 i j x hx;⟨u,g1,g2,g3.bj hE⟩⟩
 ·obtain⟨p,k1,_,_,_,k5⟩:=j0 h1;obtain⟨p',l1,_⟩:=j0 h2;exact hI.inj i i' p p' b base bT k1 l1 (k5 h3) h4 h5
 ·obtain⟨p,k1,_⟩:=j0 h1;exact hI.apart i p b base k1 h2
theorem rT {σ:Gh}{w:World}:∀(ids:List Nat) (s:List Obj),Inv σ s w->aK σ s w σ (bI s ids) w/\Inv σ (bI s ids) w
 |[],s,hI=>⟨aK.refl _ _ _,hI⟩
 |id::ids,s,hI=>by obtain⟨h1,h2⟩:=u7 hI id;obtain⟨k1,k2⟩:=rT ids (bU s id) h2;exact⟨h1.trans k1,k2⟩
theorem bC{f:FuncId}{args cargs:List V}{K:V->List Obj->Prop} (ids:List Nat) (hc:bq.go (bI s ids).length (bI s ids) args=some cargs) (h:av P f cargs (bI s ids) K):av P f args s K:=by
 refine⟨h.1,λσ w vals hI hl hv=>?_⟩;obtain⟨hE,jR⟩:=rT ids s hI;obtain⟨k1,k2⟩:=su hc;refine(h.2 σ w vals jR ae λi x hx=>?_).mono λe w' ⟨u,v,σ',s',h1,h2,h3,h4,h5⟩=>⟨u,v,σ',s',h1,hE.trans h2,h3,h4,h5⟩
 obtain⟨y,hy,hf⟩:=k2 i x hx;have:=lk jR ((hv i y hy).bj hE) hf;rwa [alr]at this
def gi (bM:Nat) (s:List Obj) (x:V):V:=(bq bM s x).getD .any
def A3 (bM:Nat) (s:List Obj) (bp:List Nat) (e:Env):Env:=λt=>if bp.contains t then gi bM s (e t) else .any
def kT (bM:Nat) (s:List Obj):List Obj:=(s.take bM).map λo=>{ o with aA:=o.aA.map λc=>c.map (gi bM s) }
theorem uU (hI:Inv σ s w) {bM:Nat} (hr:aD σ s w x u):aD σ (s.take bM) w (gi bM s x) u:=by
 unfold gi;cases h:bq bM s x with
 |none=>exact .any
 |some y=>exact lk hI hr h
theorem bO.ab6 (bM:Nat) (hL:L<=bM) (bp:List Nat):∀(σ0:Gh) (s0:List Obj) (w0:World) (σ:Gh) (w:World) (N:Nat) (a:Act),s0.length<=L->aK σ0 s0 w0 σ s w->Inv σ s w->eE σ s w N e a ->
  aK σ0 s0 w0 σ (kT bM s) w/\Inv σ (kT bM s) w/\eE σ (kT bM s) w N (A3 bM s bp e) a:=by
 intro σ0 s0 w0 σ w N a jW hE hI hR;have PE:=hE.take (bM:=bM) ae;have get:∀(id:Nat) (o:Obj),(kT bM s)[id]?=some o->∃o',(s.take bM)[id]?=some o'/\o={ o' with aA:=o'.aA.map λc=>c.map (gi bM s) }:=by intro id o ho;unfold kT at ho;rw[List.getElem?_map]at ho;obtain⟨o',h1,h2⟩:=Option.map_eq_some_iff.1 ho;exact⟨o',h1,h2.symm⟩
 have Dt:aK σ (s.take bM) w σ (kT bM s) w:=by
  refine⟨rfl,rfl,rfl,ale _,λ_ _ _=>rfl,λ_ arr _ _ h=>⟨arr,h,rfl⟩,λ_ _ h=>h,λb hb=>.inl ?_,λid o ho=>?_,rfl,λ_ _ _=>rfl⟩
  ·rcases hb with h|⟨id,o,base,h1,h2,h3⟩
   ·exact .inl h
   ·obtain⟨o',k1,rfl⟩:=get id o h1;exact .inr ⟨id,o',base,k1,h2,h3⟩
  ·exact⟨{ o with aA:=o.aA.map λc=>c.map (gi bM s) },by unfold kT;rw[List.getElem?_map,ho];rfl,ale _,λ_=>⟨rfl,rfl⟩⟩
 refine⟨PE.trans Dt,⟨λid o ho=>?_,λi i' o o' b base bT h1 h2 h3 h4 h5=>?_,hI.low,λi o b base h1 h2=>?_⟩,⟨hR.1,hR.2.1,λt=>?_⟩⟩
 ·obtain⟨o',k1,rfl⟩:=get id o ho;have k2:s[id]?=some o':=by rw[List.getElem?_take]at k1;split at k1 <;> simp_all
  rcases hI.content id o' k2 with (⟨h1,h2⟩|⟨b,es,c,h1,h2,h3⟩)|⟨b,base,arr,E,h1,h2,h3,h4,h5⟩
  ·exact .inl (.inl ⟨h1,by simp [h2]⟩)
  ·refine .inl (.inr ⟨b,es,c,h1,h2,?_⟩);simp only[h3,fX,alH];apply alK;intro e _;rfl
  ·refine .inr ⟨b,base,arr,E,h1,h2,λc hc=>?_,by simpa using h4,λi j x hx=>?_⟩
   ·obtain⟨c',Nh,rfl⟩:=List.mem_map.1 hc;simpa using h3 c' Nh
   ·simp only[List.getElem?_map]at hx;cases hi:o'.aA[i]? with
    |none=>simp [hi]at hx
    |some c =>
     simp only[hi,ala,alO,List.getElem?_map]at hx;obtain⟨y,hy,rfl⟩:=Option.map_eq_some_iff.1 hx;obtain⟨u,g1,g2,g3⟩:=h5 i j y (by simp [hi,hy]);exact⟨u,g1,g2,(uU hI g3).bj Dt⟩
 ·obtain⟨p,k1,rfl⟩:=get _ _ h1;obtain⟨p',l1,rfl⟩:=get _ _ h2;have k2:s[i]?=some p:=by rw[List.getElem?_take]at k1;split at k1 <;> simp_all
  have l2:s[i']?=some p':=by rw[List.getElem?_take]at l1;split at l1 <;> simp_all
  exact hI.inj i i' p p' b base bT k2 l2 h3 h4 h5
 ·obtain⟨p,k1,rfl⟩:=get _ _ h1;have k2:s[i]?=some p:=by rw[List.getElem?_take]at k1;split at k1 <;> simp_all
  exact hI.apart i p b base k2 h2
 ·unfold A3;split
  ·exact(uU hI (hR.2.2 t)).bj Dt
  ·exact .any
theorem bO.drop (bM:Nat) (hL:L<=bM) (bp:List Nat):bO L e s (A3 bM s bp e) (kT bM s) :=
 λσ0 s0 w0 σ w N a h1 h2 h3 h4=>⟨σ,bO.ab6 bM hL bp σ0 s0 w0 σ w N a h1 h2 h3 h4⟩
theorem bO.kill (ids:List Nat):bO L e s e (bI s ids):=by intro σ0 s0 w0 σ w N a jW hE hI hR;obtain⟨h1,h2⟩:=rT ids s hI;exact⟨σ,hE.trans h1,h2,hR.bj h1⟩
theorem bO.Ls (ids:List Nat) (bM:Nat) (hL:L<=bM) (bp:List Nat):bO L e s (A3 bM (bI s ids) bp e) (kT bM (bI s ids)) :=
 (bO.kill ids).trans (bO.drop bM hL bp)
theorem nT {bM:Nat}:∀{l:List V},(∀(i:Nat) (x:V),l[i]?=some x->ak bM x=true)->ak.go bM l=true
 |[],_=>rfl
 |v::vs,h=>by simp only[ak.go,alo];exact⟨h 0 v rfl,nT λi x hx=>h (i+1) x (by simpa using hx)⟩
theorem gN (h:s[id]?=some o):id<s.length:=(List.getElem?_eq_some_iff.1 h).1
theorem aD.aaz (h:aD σ s w x u):ak s.length x=true:=by
 induction h with
 |d hx=>rfl
 |ag h1 h2 _ ih=>exact nT ih
 |tu h1 _ ih=>exact nT ih
 |fu hx=>rfl
 |so o ho hg hu hk=>exact bi (gN ho)
 |rf o ho hg hu hk=>exact bi (gN ho)
 |pp o ho hg hk=>exact bi (gN ho)
 |mp o ho hg hu hk=>exact bi (gN ho)
 |bx h1 h2 h3 hu _ ih=>exact ih
 |cap h1 _ ih=>exact ih
 |cl h1 _ h3 _ As mN =>
  simp only[ak,alo];exact⟨nT As,nT mN⟩
 |un=>rfl
 |any=>rfl
theorem aD.Tv {σ':Gh}{s':List Obj} (ju:∀b,Own σ' s' b->Own σ s b)
  (hobj:∀id o,id<n->s[id]?=some o->∃o',s'[id]?=some o'/\o.g<=o'.g/\(o'.g=o.g->o'.sz=o.sz/\σ' id=σ id)) (hr:aD σ s w x u) (h:ak n x=true):aD σ' s' w x u:=by
 induction hr with
 |d hx=>exact .d (hx.own ju)
 |ag h1 h2 _ ih=>exact .ag h1 h2 λi x hx=>ih i x hx (dO (by simpa only[ak]using h) i x hx)
 |tu h1 _ ih=>exact .tu h1 λi x hx=>ih i x hx (dO (by simpa only[ak]using h) i x hx)
 |fu hx=>exact .fu (hx.own ju)
 |so o ho hg hu hk =>
  simp only[ak,decide_eq_true_eq]at h;obtain⟨o',h1,h2,h3⟩:=hobj _ o h ho;refine .so o' h1 (al7 hg h2) hu λhe=>?_;have e:o'.g=o.g:=ae;have:=hk ae;unfold AK at this ⊢;rw[(h3 e).1,(h3 e).2];exact this
 |rf o ho hg hu hk =>
  simp only[ak,decide_eq_true_eq]at h;obtain⟨o',h1,h2,h3⟩:=hobj _ o h ho;refine .rf o' h1 (al7 hg h2) hu λhe=>?_;have e:o'.g=o.g:=ae;rw[(h3 e).1,(h3 e).2];exact hk ae
 |pp o ho hg hk =>
  simp only[ak,decide_eq_true_eq]at h;obtain⟨o',h1,h2,h3⟩:=hobj _ o h ho;refine .pp o' h1 (al7 hg h2) λhe=>?_;have e:o'.g=o.g:=ae;rw[(h3 e).1,(h3 e).2];exact hk ae
 |mp o ho hg hu hk =>
  simp only[ak,decide_eq_true_eq]at h;obtain⟨o',h1,h2,h3⟩:=hobj _ o h ho;refine .mp o' h1 (al7 hg h2) hu λhe=>?_;have e:o'.g=o.g:=ae;rw[(h3 e).2];exact hk ae
 |bx h1 h2 h3 hu _ ih=>exact .bx h1 h2 (λh'=>h3 (ju _ h')) hu (ih (by simpa only[ak]using h))
 |cap h1 _ ih=>exact .cap h1 (ih (by simpa only[ak]using h))
 |cl h1 _ h3 _ As mN =>
  exact Zbr
 |un=>exact .un
 |any=>exact .any
def uB (σ:Gh) (h n:Nat):Gh:=⟨λk=>if k=h then σ n else if n<=k then none else σ k,σ.base⟩
theorem Ei{h:Nat} (hI0:Inv σ0 s w0) (hE:aK σ0 s w0 σ1 (s++[o]) w1) (hI:Inv σ1 (s++[o]) w1) (hh:s[h]?=some ob) (VP:o.live=true)
  (hd:∀(i j:Nat) (x:V),(o.aA[i]?.bind (·[j]?))=some x->ak 0 x=true\/ak s.length x=true) :
  aK σ0 s w0 (uB σ1 h s.length) (s.set h ⟨ob.g+1,true,o.sz,o.aA⟩) w1/\Inv (uB σ1 h s.length) (s.set h ⟨ob.g+1,true,o.sz,o.aA⟩) w1 /\
   ∀lo n u,aD σ1 (s++[o]) w1 (.so s.length o.g lo n) u->aD (uB σ1 h s.length) (s.set h ⟨ob.g+1,true,o.sz,o.aA⟩) w1 (.so h (ob.g+1) lo n) u:=by
 have aE:=gN hh;have Ce:(s.set h ⟨ob.g+1,true,o.sz,o.aA⟩)[h]?=some ⟨ob.g+1,true,o.sz,o.aA⟩:=by simp [aE]
 have n6:∀k,k≠h->(s.set h (⟨ob.g+1,true,o.sz,o.aA⟩:Obj))[k]?=s[k]?:=λk hk=>by rw[List.getElem?_set_ne (λe=>hk e.symm)]
 have uv:(s++[o])[s.length]?=some o:=aq;have hold:∀k ok,s[k]?=some ok->(s++[o])[k]?=some ok:=λk ok hk=>by rw[List.getElem?_append_left (gN hk)];exact hk
 have gh:uB σ1 h s.length h=σ1 s.length:=be rfl;have go:∀k ok,k≠h->s[k]?=some ok->uB σ1 h s.length k=σ1 k:=λk ok hk hs=>by show (if k=h then _ else if s.length<=k then _ else _)=_;rw[ap hk,ap (by have:=gN hs;omega)]
 have ju:∀b,Own (uB σ1 h s.length) (s.set h ⟨ob.g+1,true,o.sz,o.aA⟩) b->Own σ1 (s++[o]) b:=by
  rintro b (hb|⟨k,ok,base,h1,h2,h3⟩)
  ·exact .inl hb
  ·by_cases hk:k=h
   ·subst hk;rw[gh]at h3;exact .inr ⟨s.length,o,base,uv,VP,h3⟩
   ·rw[n6 k hk]at h1;rw[go k ok hk h1]at h3;exact .inr ⟨k,ok,base,hold k ok h1,h2,h3⟩
 have hobj:∀id o1,id<s.length->(s++[o])[id]?=some o1->∃o',(s.set h ⟨ob.g+1,true,o.sz,o.aA⟩)[id]?=some o'/\o1.g<=o'.g/\(o'.g=o1.g->o'.sz=o1.sz/\uB σ1 h s.length id=σ1 id):=by
  intro id o1 dA h1;rw[List.getElem?_append_left dA]at h1;by_cases hk:id=h
  ·subst hk;rw[hh]at h1;cases h1;exact⟨_,Ce,Nat.le_succ _,λhe=>by simp at he⟩
  ·exact⟨o1,by rw[n6 id hk];exact h1,ale _,λ_=>⟨rfl,go id o1 hk h1⟩⟩
 have Dt:aK σ0 s w0 (uB σ1 h s.length) (s.set h ⟨ob.g+1,true,o.sz,o.aA⟩) w1:=by refine⟨hE.os,hE.tape,hE.output,hE.size,hE.bp,hE.shape,hE.qY,λb hb=>hE.own b (ju b hb),λid o1 h1=>?_,hE.base,hE.gk⟩;obtain⟨o2,k1,k2,k3⟩:=hE.bw id o1 h1;have dA:=gN h1;obtain⟨o3,j1,j2,j3⟩:=hobj id o2 dA k1;exact⟨o3,j1,al7 k2 j2,λhe=>⟨(j3 ae).1.trans (k3 ae).1,(j3 ae).2.trans (k3 ae).2⟩⟩
 have hrefs:∀(id:Nat) (o1:Obj),s[id]?=some o1->∀(i j:Nat) (x:V),(o1.aA[i]?.bind (·[j]?))=some x->ak s.length x=true:=by
  intro id o1 h1 i j x hx;rcases hI0.content id o1 h1 with (⟨_,he⟩|⟨b,es,c,_,_,he⟩)|⟨b,base,arr,E,_,_,_,_,h5⟩
  ·rw[he]at hx;simp at hx
  ·rw[he]at hx;unfold fX at hx;rw[List.getElem?_map]at hx;cases Hl:es.toList[i]? with
   |none=>rw[Hl]at hx;cases hx
   |some y =>
    rw[Hl]at hx;simp only[ala,alO]at hx
    match j with
    |0=>simp at hx;subst hx;rfl
    |1=>simp at hx;subst hx;rfl
    |j+2=>simp at hx
  ·obtain⟨u,_,_,h6⟩:=h5 i j x hx;exact h6.aaz
 refine⟨Dt,⟨?_,?_,hI.low,?_⟩,?_⟩
 ·intro id o1 h1;by_cases hk:id=h
  ·subst hk;rw[Ce]at h1;cases h1;rw[gh];rcases hI.content _ _ uv with hb|⟨b,base,arr,E,k1,k2,k3,k4,k5⟩
   ·exact .inl (hb.congr rfl)
   ·refine .inr ⟨b,base,arr,E,k1,k2,k3,k4,λi j x hx=>?_⟩;obtain⟨u,j1,j2,j3⟩:=k5 i j x hx;rcases hd i j x hx with YY|YY
    ·exact⟨u,j1,j2,j3.move YY ju⟩
    ·exact⟨u,j1,j2,aD.Tv ju hobj j3 YY⟩
  ·rw[n6 id hk]at h1;rw[go id o1 hk h1];rcases hI.content _ _ (hold id o1 h1) with hb|⟨b,base,arr,E,k1,k2,k3,k4,k5⟩
   ·exact .inl hb
   ·refine .inr ⟨b,base,arr,E,k1,k2,k3,k4,λi j x hx=>?_⟩;obtain⟨u,j1,j2,j3⟩:=k5 i j x hx;exact⟨u,j1,j2,aD.Tv ju hobj j3 (hrefs id o1 h1 i j x hx)⟩
 ·intro k k' o1 o2 b base bT h1 h2 h3 h4 h5;by_cases hk:k=h <;> by_cases vD:k'=h
  ·rw[hk,vD]
  ·subst hk;rw[gh]at h4;rw[n6 k' vD]at h2;rw[go k' o2 vD h2]at h5;have:=hI.inj _ _ _ _ _ _ _ uv (hold k' o2 h2) VP h4 h5;have:=gN h2;omega
  ·subst vD;rw[gh]at h5;rw[n6 k hk]at h1;rw[go k o1 hk h1]at h4;have:=hI.inj _ _ _ _ _ _ _ (hold k o1 h1) uv h3 h4 h5;have:=gN h1;omega
  ·rw[n6 k hk]at h1;rw[n6 k' vD]at h2;rw[go k o1 hk h1]at h4;rw[go k' o2 vD h2]at h5;exact hI.inj _ _ _ _ _ _ _ (hold k o1 h1) (hold k' o2 h2) h3 h4 h5
 ·intro k o1 b base h1 h2;by_cases hk:k=h
  ·subst hk;rw[gh]at h2;exact hI.apart _ _ _ _ uv h2
  ·rw[n6 k hk]at h1;rw[go k o1 hk h1]at h2;exact hI.apart _ _ _ _ (hold k o1 h1) h2
 ·intro lo n u hu;cases hu with|so o1 h1 h2 h3 h4=>?_
  rw[uv]at h1;cases h1;refine .so _ Ce (ale _) h3 λ_=>?_;have:=h4 rfl;unfold AK at this ⊢;rw[gh];exact this
theorem oS{h:Nat} (hI0:Inv σ0 s w0) (hE:aK σ0 s w0 σ1 (s++[o]) w1) (hI:Inv σ1 (s++[o]) w1) (hh:s[h]?=some ob) (VP:o.live=true)
  (hd:∀(i j:Nat) (x:V),(o.aA[i]?.bind (·[j]?))=some x->ak 0 x=true) :
  aK σ0 s w0 (uB σ1 h s.length) (s.set h ⟨ob.g+1,true,o.sz,o.aA⟩) w1/\Inv (uB σ1 h s.length) (s.set h ⟨ob.g+1,true,o.sz,o.aA⟩) w1 /\
   ∀lo n u,aD σ1 (s++[o]) w1 (.so s.length o.g lo n) u->aD (uB σ1 h s.length) (s.set h ⟨ob.g+1,true,o.sz,o.aA⟩) w1 (.so h (ob.g+1) lo n) u:=Ei hI0 hE hI hh VP λi j x hx=>.inl (hd i j x hx)
theorem K6{e:TypeId}{i:S4}{g:Nat}{xv:V} (hI:Inv σ s w) (ha:aD σ s w (.so id g lo n) ua) (hc:Va cl ch ua) (hx:aD σ s w xv ux) (yS:jl s xv=some ns)
  (hti:jn P t=some (e,i)) (ho:s[id]?=some o) (hg:o.g=g) (Lj:o.sz=i.sz) (hz:∀e∈ns,e.length=i.sz) (mb:0<i.sz) (VZ:0<ns.length) (hlo:lo+n<=o.aA.length) (uX:o.live=true) (hr:n+ns.length<=cl) :
  ∃r σ' w',(Builtin.append_ #[t,t] ty #[ua,ux]).run P w=.ok r w'/\aK σ s w σ' (s.set id ⟨g,true,i.sz,o.aA.take (lo+n)++ns++o.aA.drop (lo+n+ns.length)⟩) w' /\
   Inv σ' (s.set id ⟨g,true,i.sz,o.aA.take (lo+n)++ns++o.aA.drop (lo+n+ns.length)⟩) w'/\aD σ' (s.set id ⟨g,true,i.sz,o.aA.take (lo+n)++ns++o.aA.drop (lo+n+ns.length)⟩) w' (.so id g lo (n+ns.length)) r:=by
 obtain⟨hu,hi⟩:=ln hti;obtain⟨ti,d,z,k1,k2,k3,k4,k5,k6,k7,k8,k9⟩:=iI hi;have Nx:z.cells.size=i.sz:=by rw[<- amu,k6,k7]
 obtain⟨ax,xR,rfl,E9,aad,news,n1,n2,n3,n4⟩:=jV hI hx yS hz;have xk:Src P ti.size t (.slice ax ns.length xR) ns.length news w:=by
  exact ZbT
 obtain⟨Vs,YU⟩:=pT hI;have iy:jl s (.so id g lo n)=some ((o.aA.drop lo).take n):=by simp [jl,ho,hg,hlo]
 have od:((o.aA.drop lo).take n).length=n:=cV;have hoz:∀e∈o.aA,e.length=i.sz:=by
  intro e oT;exact ZaE
 have Xg:∀e∈(o.aA.drop lo).take n,e.length=i.sz:=λe he=>hoz e (List.mem_of_mem_drop (alU he));obtain⟨base,cap,Fv,a1,a2,mJ,o1,o2,o3,o4⟩:=jV hI ha iy Xg;rw[od]at Fv a2;cases ha with|so o' jb D4 Sn hk=>?_
 rw[ho]at jb;cases jb;have vD:=hk hg;have vt:n+ns.length<=cap:=by have:=(hc _ _ _ Fv).1;omega
 rcases vD with ⟨jW,⟨aa,za⟩,rfl,rfl⟩|⟨b,bs,cp,E,arr,dL,hh,za,Bp,hfit⟩
 ·rw[Fv]at za;simp only[Value.slice.injEq]at za;omega
 rw[Fv]at za;simp only[Value.slice.injEq]at za;obtain⟨rfl,_,rfl⟩:=za;subst Fv;generalize i.sz=Z at *;subst Lj;obtain⟨bb,bs',ajR,E2,q1,q2,q3,q4,q5⟩:∃b base arr E,σ id=some (b,base)/\w.heap[b]?=some (.cells arr E (0,0))/\(∀e∈o.aA,e.length=o.sz)/\base+o.aA.length*o.sz<=arr.size /\
   ∀i j x,(o.aA[i]?.bind (·[j]?))=some x->∃u,arr[base+i*o.sz+j]?=some u/\u.oneCell'=true/\aD σ s w x u:=by
  rcases hI.content _ o ho with h0|h0
  ·exact(h0.CH dL ⟨arr,E,hh⟩).elim
  ·exact h0
 rw[dL]at q1;simp only[alb,alG]at q1;obtain⟨rfl,rfl⟩:=q1;rw[hh]at q2;simp only[alb,Go.Obj.cells.injEq]at q2;obtain⟨rfl,rfl,_⟩:=q2;generalize hS:bs+(lo+n)*o.sz=S at *;have aeV:bs+lo*o.sz+n*o.sz=S:=by rw[<- hS,alS];omega
 have hq:S+news.length<=arr.size:=by rw[n1,<- hS];have e1:(lo+cap)*o.sz=lo*o.sz+cap*o.sz:=alS _ _ _;have e2:=alF o.sz vt;rw[alS]at e2;rw[alS];omega
 have bL:=run_storeCells_at P b S E news 0 arr w hh ae n2;simp only[al8]at bL;generalize qI:(arr.toList.take S++news++arr.toList.drop (S+news.length)).toArray=cN at bL;have jS:cN.size=arr.size:=by rw[<- qI];simp;omega
 have hlS:(arr.toList.take S).length=S:=cV;have aE:∀p,p<S->cN[p]?=arr[p]?:=by intro p hp;rw[<- qI,List.getElem?_toArray,alx,List.getElem?_append_left cV,List.getElem?_take,be hp,Array.getElem?_toList]
 have kK:∀q,q<news.length->cN[S+q]?=news[q]?:=by intro q Cf;rw[<- qI,List.getElem?_toArray,alx,List.getElem?_append_right ae,hlS,List.getElem?_append_left ae];congr 1;omega
 have hgt:∀p,S+news.length<=p->cN[p]?=arr[p]?:=by intro p hp;rw[<- qI,List.getElem?_toArray,alx,List.getElem?_append_right ae,hlS,List.getElem?_append_right ae,List.getElem?_drop,Array.getElem?_toList];congr 1;omega
 have V1:∀e∈o.aA.take (lo+n)++ns++o.aA.drop (lo+n+ns.length),e.length=o.sz:=by
  intro e he;rcases List.mem_append.1 he with he|he
  ·rcases List.mem_append.1 he with he|he
   ·exact hoz e (alU he)
   ·exact hz e he
  ·exact hoz e (List.mem_of_mem_drop he)
 have ZU:bs+(o.aA.take (lo+n)++ns++o.aA.drop (lo+n+ns.length)).length*o.sz<=arr.size:=by
  have hl:(o.aA.take (lo+n)++ns++o.aA.drop (lo+n+ns.length)).length=max (lo+n+ns.length) o.aA.length:=by simp only[ald,alM,List.length_drop];omega
  rw[hl];rcases Nat.le_total (lo+n+ns.length) o.aA.length with h'|h'
  ·rw[Nat.max_eq_right h'];exact q4
  ·rw[Nat.max_eq_left h'];have e3:(lo+n+ns.length)*o.sz<=(lo+cap)*o.sz:=alF _ ae;omega
 have:=oM (p:=some (b,bs)) (o':=⟨g,true,o.sz,o.aA.take (lo+n)++ns++o.aA.drop (lo+n+ns.length)⟩) (w':=w.setRow b cN) hI ho uX rfl rfl rfl aq
  (λb1 _ eX=>setRow_other w b b1 cN (λe=>eX bs (by rw[dL,e])))
  (λb1 kI ZA E1 he Zn=>by
   rw[dL]at he;cases he;rw[hh]at Zn;cases Zn;exact⟨cN,setRow_heap w b arr cN E (0,0) hh,jS⟩)
  (λb1 kI he hm=>by
   rw[dL]at he;cases he;exact(IA.notM ⟨arr,E,hh⟩ hm).elim)
  oE (λ_=>⟨rfl,dL.symm⟩) (λb1 kI he=>by cases he;exact .inl ⟨bs,dL⟩)
  (λhE=>.inr ⟨b,bs,cN,E,rfl,setRow_heap w b arr cN E (0,0) hh,V1,by rw[jS];exact ZU,λi' j y hy=>by
   simp only at hy ⊢;obtain⟨el,uj,hj⟩:∃el,(o.aA.take (lo+n)++ns++o.aA.drop (lo+n+ns.length))[i']?=some el/\el[j]?=some y:=by
    cases Cf:(o.aA.take (lo+n)++ns++o.aA.drop (lo+n+ns.length))[i']? with
    |none=>rw[Cf]at hy;cases hy
    |some el=>rw[Cf]at hy;exact⟨el,rfl,hy⟩
   have WJ:j<o.sz:=by have:=(List.getElem?_eq_some_iff.1 hj).1;rwa [V1 el (List.mem_of_getElem? uj)]at this
   have VW:(o.aA.take (lo+n)).length=lo+n:=cV;by_cases c1:i'<lo+n
   ·rw[alx,List.getElem?_append_left ae,List.getElem?_take,be c1]at uj;obtain⟨u,u1,u2,u3⟩:=q5 i' j y (by rw[uj];exact hj);have gY:(i'+1)*o.sz<=(lo+n)*o.sz:=alF _ ae;rw[alS,Nat.one_mul]at gY;exact⟨u,by rw[aE _ ae];exact u1,u2,u3.bj hE⟩
   ·by_cases c2:i'<lo+n+ns.length
    ·rw[alx,List.getElem?_append_right ae,VW,List.getElem?_append_left ae]at uj;obtain⟨c,d1,d2,d3⟩:=n4 (i' - (lo+n)) j y (by rw[uj];exact hj);have hql:=(List.getElem?_eq_some_iff.1 d1).1;have Z7:bs+i'*o.sz+j=S+((i' - (lo+n))*o.sz+j):=by
      rw[<- hS,alL bs,<- alL bs,alL,alL];have:i'*o.sz=(lo+n)*o.sz+(i' - (lo+n))*o.sz:=by rw[<- alS];congr 1;omega
      omega
     exact⟨c,by rw[Z7,kK _ hql];exact d1,d2,d3.bj hE⟩
    ·rw[List.getElem?_append_right (by simp only[ald,VW];omega),List.getElem?_drop]at uj;have WH:o.aA[i']?=some el:=by rw[<- uj];congr 1;simp only[ald,VW];omega
     obtain⟨u,u1,u2,u3⟩:=q5 i' j y (by rw[WH];exact hj);have gY:(lo+n+ns.length)*o.sz<=i'*o.sz:=alF _ ae;rw[alS]at gY;exact⟨u,by rw[hgt _ (by rw[n1];omega)];exact u1,u2,u3.bj hE⟩⟩)
 have hup:pM σ id (some (b,bs)) id=some (b,bs):=cy _ _ _;refine⟨.slice (some ⟨b,bs+lo*o.sz,none⟩) (n+ns.length) cap,_,w.setRow b cN,?_,this.1,this.2,?_⟩
 ·have nf:=xk.cells;rw[k4]at nf;rw[<- aeV]at bL;exact ZcG
 ·exact .so ⟨g,true,o.sz,o.aA.take (lo+n)++ns++o.aA.drop (lo+n+ns.length)⟩ (by simp [(List.getElem?_eq_some_iff.1 ho).1]) (ale _) ⟨_,_,rfl⟩
   (λ_=>.inr ⟨b,bs,cap,E,cN,hup,setRow_heap w b arr cN E (0,0) hh,rfl,vt,by rw[jS];exact hfit⟩)
theorem KH{e:TypeId}{i:S4}{g:Nat}{xv:V} (hI:Inv σ s w) (ha:aD σ s w (.so id g lo n) ua) (hc:Va cl ch ua) (hx:aD σ s w xv ux) (yS:jl s xv=some ns)
  (hti:jn P t=some (e,i)) (ho:s[id]?=some o) (hg:o.g=g) (Lj:o.sz=i.sz) (hz:∀e∈ns,e.length=i.sz) (mb:0<i.sz) (VZ:0<ns.length) (hlo:lo+n<=o.aA.length) (hbp:0<i.EP) (hb:(n+ns.length)*i.EP<=140737488355328) (hr:ch<n+ns.length) :
  ∃r σ' w',(Builtin.append_ #[t,t] ty #[ua,ux]).run P w=.ok r w'/\aK σ s w σ' (s++[⟨0,true,i.sz,(o.aA.drop lo).take n++ns⟩]) w' /\
   Inv σ' (s++[⟨0,true,i.sz,(o.aA.drop lo).take n++ns⟩]) w'/\aD σ' (s++[⟨0,true,i.sz,(o.aA.drop lo).take n++ns⟩]) w' (.so s.length 0 0 (n+ns.length)) r:=by
 obtain⟨hu,hi⟩:=ln hti;obtain⟨ti,d,z,k1,k2,k3,k4,k5,k6,k7,k8,k9⟩:=iI hi;have Nx:z.cells.size=i.sz:=by rw[<- amu,k6,k7]
 obtain⟨ax,xR,rfl,E9,aad,news,n1,n2,n3,n4⟩:=jV hI hx yS hz;have xk:Src P ti.size t (.slice ax ns.length xR) ns.length news w:=by
  exact ZbT
 obtain⟨Vs,YU⟩:=pT hI;have iy:jl s (.so id g lo n)=some ((o.aA.drop lo).take n):=by simp [jl,ho,hg,hlo]
 have od:((o.aA.drop lo).take n).length=n:=cV;have hoz:∀e∈o.aA,e.length=i.sz:=by
  intro e oT;exact ZaE
 have Xg:∀e∈(o.aA.drop lo).take n,e.length=i.sz:=λe he=>hoz e (List.mem_of_mem_drop (alU he));obtain⟨base,cap,Fv,a1,a2,mJ,o1,o2,o3,o4⟩:=jV hI ha iy Xg;rw[od]at Fv a2;cases ha with|so o' jb D4 Sn hk=>?_
 rw[ho]at jb;cases jb;have vD:=hk hg;have qf:cap<n+ns.length:=by have:=(hc _ _ _ Fv).2;omega
 have hold:(Builtin.firstCells ti.size n (.slice base n cap)).run P w.drew=.ok mJ.toArray w.drew:=by
  rw[k4];cases base with
  |none =>
   have he:(o.aA.drop lo).take n=[]:=a1 rfl;rw[he]at o1 od;have fS:n=0:=by simpa using od.symm
   have hn:mJ=[]:=alz (by simpa using o1);subst fS hn;exact run_firstCells_none w.drew i.sz 0 0 cap
  |some ad=>exact run_firstCells_some w.drew i.sz n ad n cap mJ (by rw[o1,od]) (by simpa using o3 ad rfl)
 have hle:n+ns.length<=(n+ns.length)*i.EP:=Nat.le_mul_of_pos_right _ hbp;have dU:=run_append_grow_src (P:=P) w t t ty e ti z hu k1 k3 base n cap mJ hold (.slice ax ns.length xR) ns.length news xk qf ae (growslice_fits qf (by rw[k5];exact hb));have gE:=grownCap_ge w (n+ns.length) cap e;subst Fv;generalize grownCap w (n+ns.length) cap e=pA at *;have gr:((mJ++news).toArray++Builtin.zeroCells z.cells (pA - (n+ns.length))).size=pA*i.sz:=by simp only[Array.size_append,List.size_toArray,size_zeroCells,ald,o1,n1,Nx,od];rw[<- alS,<- alS];congr 1;omega
 have ig:∀(i' j:Nat) (y:V),(((o.aA.drop lo).take n++ns)[i']?.bind (·[j]?))=some y->∃c,((mJ++news).toArray++Builtin.zeroCells z.cells (pA - (n+ns.length)))[i'*i.sz+j]?=some c/\c.oneCell'=true/\aD σ s w y c:=by intro i' j y hy;obtain⟨c,c1,c2,c3⟩:=vg o1 o4 n4 i' j y hy;exact⟨c,HT c1,c2,c3⟩
 generalize (mJ++news).toArray++Builtin.zeroCells z.cells (pA - (n+ns.length))=arr at *;have:=tg (aA:=(o.aA.drop lo).take n++ns) (sz:=i.sz) (arr:=arr) YU e (λe he=>(List.mem_append.1 he).elim (Xg e) (hz e)) (by rw[gr,ald,od];exact alF _ gE)
  (λi' j y hy=>let ⟨c,c1,c2,c3⟩:=ig i' j y hy;⟨c,c1,c2,c3.bj Vs⟩)
 refine⟨_,_,_,dU,Vs.trans this.1,this.2,?_⟩;exact .so ⟨0,true,i.sz,(o.aA.drop lo).take n++ns⟩ aq (ale _) ⟨_,_,rfl⟩ (λ_=>.inr ⟨w.heap.size,0,pA,e,arr,cy _ _ _,heap_alloc_new w.drew _,aq,gE,by simp [gr]⟩)
end Go.VL
