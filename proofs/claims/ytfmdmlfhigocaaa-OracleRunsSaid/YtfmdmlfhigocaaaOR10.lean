/- A part of the proof (Vo Vp Vpa Vgr). -/
import Derived.Test.YtfmdmlfhigocaaaOR3
import Derived.Test.YtfmdmlfhigocaaaOR9
set_option linter.unusedSimpArgs false
set_option linter.unusedVariables false
set_option maxRecDepth 100000
set_option maxHeartbeats 80000000
namespace Go.VL
variable{c:Prop}{X:(V->Prop)->Prop}{s:List Obj}
def kN (X:(V->Prop)->Prop):Prop:=∀K,X K->∃v,X (λv'=>v'=v)/\K v
def qZ (X:(V->List Obj->Prop)->Prop):Prop:=∀K,X K->∃v s,X (λv' s'=>v'=v/\s'=s)/\K v s
theorem vx {agg n cs}:kN (qQ agg n cs):=by
 intro K h;unfold qQ at *;cases agg with
 |true=>exact⟨_,⟨h.1,rfl⟩,h.2⟩
 |false =>
  cases cs with
  |nil=>exact h.2.elim
  |cons v l=>exact⟨v,⟨h.1,rfl⟩,h.2⟩
theorem nz {s id g}{F:Obj->(V->Prop)->Prop} (hF:∀o,kN (F o)):kN λK=>wo s id g λo=>F o K:=by
 intro K h;unfold wo at *;cases hs:s[id]? with
 |none=>rw[hs]at h;exact h.elim
 |some o =>
  simp only[hs]at h ⊢;obtain⟨v,h1,h2⟩:=hF o K h.2;exact⟨v,⟨h.1,h1⟩,h2⟩
theorem EZ {s id g}{F:Obj->(V->List Obj->Prop)->Prop} (hF:∀o,qZ (F o)):qZ λK=>wo s id g λo=>F o K:=by
 intro K h;unfold wo at *;cases hs:s[id]? with
 |none=>rw[hs]at h;exact h.elim
 |some o =>
  simp only[hs]at h ⊢;obtain⟨v,s1,h1,h2⟩:=hF o K h.2;exact⟨v,s1,⟨h.1,h1⟩,h2⟩
theorem bn {v:V}:kN λK=>K v:=λ_ h=>⟨v,rfl,h⟩
theorem aK:kN λ_=>False:=λ_ h=>h.elim
theorem bU (h:kN X):kN λK=>c/\X K:=λK hk =>
 let ⟨v,h1,h2⟩:=h K hk.2
 ⟨v,⟨hk.1,h1⟩,h2⟩
theorem da {v:V}:qZ λK=>K v s:=λ_ h=>⟨v,s,⟨rfl,rfl⟩,h⟩
theorem aW:qZ λ_=>False:=λ_ h=>h.elim
theorem cK{X:(V->List Obj->Prop)->Prop} (h:qZ X):qZ λK=>c/\X K:=λK hk =>
 let ⟨v,s,h1,h2⟩:=h K hk.2
 ⟨v,s,⟨hk.1,h1⟩,h2⟩
theorem gp (h:kN X):qZ λK=>X λv=>K v s:=by intro K hk;obtain⟨v,h1,h2⟩:=h _ hk;refine⟨v,s,?_,h2⟩;simpa using h1
theorem M1 {P t s p}:kN (mz P t s p):=by
 unfold mz;cases cH P t with
 |none=>exact aK
 |some i =>
  simp only;cases p with
  |d x =>
   cases x with
   |el cs=>exact vx
   |_=>exact aK
  |rf id g k off =>
   simp only;cases s[id]? with
   |none=>exact aK
   |some o =>
    simp only;cases o.aw[k]? with
    |none=>exact bU aK
    |some cs=>exact bU vx
  |pp id g k off b a =>
   simp only;cases s[id]? with
   |none=>exact aK
   |some o =>
    simp only;cases o.aw[k]? with
    |none=>exact bU aK
    |some cs=>exact bU vx
  |bx v=>exact vx
  |_=>exact aK
theorem Cu {P t s p f}:kN (fh P t s p f):=by
 unfold fh;cases br P t f with
 |none=>exact aK
 |some i =>
  simp only;split
  ·exact bn
  ·exact nz λ_=>bn
  ·exact nz λ_=>bn
  ·exact bn
  ·exact aK
theorem Pd {aw i z}:kN (Xe aw i z):=by
 unfold Xe;cases aw[i]? with
 |none=>exact aK
 |some cs=>exact bU bn
theorem Cr {P t s x i}:kN (dT P t s x i):=by
 unfold dT;split
 ·split
  ·split
   ·exact bU (bU Pd)
   ·exact bU (bU Pd)
   ·exact nz λ_=>bU (bU (bU bn))
   ·exact aK
  ·split
   ·split
    ·exact bU (bU bn)
    ·exact nz λ_=>bU (bU bn)
    ·exact aK
   ·exact aK
 ·exact aK
theorem Dt {P t cs off}:kN (tW P t cs off):=by
 unfold tW;cases cH P t with
 |none=>exact aK
 |some i =>
  simp only;cases i.agg with
  |true=>exact bU bn
  |false =>
   simp only;cases cs[off]? with
   |none=>exact aK
   |some v=>exact bn
theorem Mp {P t x f}:kN (ny P t x f):=by
 unfold ny;split
 ·split
  ·split
   ·exact Dt
   ·exact aK
  ·exact aK
 ·exact aK
theorem K6 {P t x i}:kN (lj P t x i):=by
 unfold lj;split
 ·split
  ·split
   ·split
    ·exact bU (bU Dt)
    ·exact aK
   ·exact aK
  ·exact aK
 ·exact aK
theorem KZ {P t parts}:kN (qG P t parts):=by
 unfold qG;split
 ·exact aK
 ·split
  ·split
   ·exact bn
   ·exact aK
  ·split
   ·split
    ·exact bn
    ·exact aK
   ·exact aK
theorem Mj {P t s}:qZ (qF P t s):=by
 unfold qF;split
 ·exact aW
 ·exact da
theorem Qu {s x}:qZ (BZ s x):=by
 unfold BZ;split
 ·exact aW
 ·exact da
theorem Az {P t len parts s}:qZ (e9 P t len parts s):=by
 unfold e9;split
 ·exact aW
 ·refine cK ?_;split
  ·exact aW
  ·split
   ·exact da
   ·exact da
theorem Cy {P t l c s}:qZ (gY P t l c s):=by
 unfold gY;split
 ·exact aW
 ·split
  ·exact cK da
  ·exact aW
theorem I2 {P t a x s}:qZ (dj P t a x s):=by
 unfold dj;split
 ·exact aW
 ·split
  ·exact aW
  ·refine cK ?_;split
   ·split
    ·exact cK da
    ·exact cK da
   ·exact EZ λ_=>cK da
   ·exact aW
theorem FF {P t t' a x s}:qZ (lJ P t t' a x s):=by
 unfold lJ;split
 ·exact aW
 ·split
  ·split
   ·exact cK da
   ·exact aW
  ·exact aW
theorem Rn {P t x}:kN (Mi P t x):=by
 unfold Mi;split
 ·split
  ·exact bn
  ·exact aK
 ·exact aK
theorem Fz {P t x lo hi mx}:kN (mS P t x lo hi mx):=by
 unfold mS;split
 ·exact aK
 ·split
  ·exact bU bn
  ·exact aK
theorem JP {P t x lo hi mx s}:kN (ma P t x lo hi mx s):=by
 unfold ma;split
 ·exact Fz
 ·split
  ·exact aK
  ·split
   ·refine bU ?_;split
    ·exact bU bn
    ·exact bU bn
    ·exact bU (bU (bU bn))
    ·refine nz λ_=>bU ?_;split
     ·exact bn
     ·exact bn
    ·exact aK
   ·exact aK
theorem RC {P t x s}:kN (mo P t x s):=by
 unfold mo;split
 ·split
  ·exact bn
  ·exact bn
  ·exact bn
  ·exact aK
 ·split
  ·exact bn
  ·exact aK
 ·exact aK
theorem Rj {op k a b}:kN (fv op k a b):=by unfold fv;split <;> first|exact bn|exact bU bn|exact aK|(split <;> first|exact bn|exact bU bn|exact aK)
theorem Lv {P op t xs ys}:kN (kq P op t xs ys):=by
 unfold kq;split
 ·refine bU ?_;split <;> first|exact bn|exact aK
 ·refine bU ?_;split <;> first|exact bn|exact aK
 ·exact aK
theorem N8 {P op t s x y}:kN (dG P op t s x y):=by unfold dG;split <;> first|exact Lv|exact bU Rj|exact aK|(refine bU ?_;split <;> first|exact bn|exact aK)|(refine bU (bU ?_);split <;> first|exact bn|exact aK)|(split <;> first|exact bn|exact aK)
theorem Q6 {P op t s x y}:kN (qP P op t s x y):=by
 unfold qP;split
 ·unfold sR;split
  ·exact bU bn
  ·exact aK
 ·exact N8
theorem KO {P op t s x}:kN (eI P op t s x):=by unfold eI;refine bU (bU ?_);split <;> first|exact bn|exact aK|exact nz λ_=>bn
theorem Tr {op x}:kN (Cw op x):=by unfold Cw;split <;> first|exact bn|exact aK
theorem M4 {P a b x}:kN (qU P a b x):=by
 unfold qU;split
 ·split <;> first|exact bn|exact aK
 ·exact aK
theorem sE {mn}:∀(ys:List V) (acc:V),kN (fD mn acc ys)
 |[],acc=>bn
 |y::ys,acc=>by
  intro K h;unfold fD at h;split at h
  ·obtain⟨v,h1,h2⟩:=sE ys _ K h;exact⟨v,by unfold fD;exact h1,h2⟩
  ·exact h.elim
theorem Q9 {s x}:kN (kD s x):=by
 unfold kD;split
 ·exact bn
 ·exact nz λ_=>bn
 ·exact nz λ_=>bn
 ·exact bn
 ·exact bn
 ·exact aK
theorem QI {x i}:kN (zv x i):=by
 unfold zv;split
 ·split
  ·exact bn
  ·exact aK
 ·exact aK
theorem Lb {x a b s}:qZ λK=>iM x (K a s) (K b s):=by
 unfold iM;split
 ·rename_i b';cases b' with
  |true=>intro K h;exact⟨a,s,aj,h.1 rfl⟩
  |false=>intro K h;exact⟨b,s,aj,h.2 rfl⟩
 ·exact aW
theorem LQ {P t s p x}:qZ λK=>iY P t s p x λs'=>K .un s':=by
 unfold iY;split
 ·exact aW
 ·split
  ·split
   ·exact aW
   ·refine cK (cK ?_);split
    ·exact aW
    ·split
     ·exact aW
     ·exact cK (cK da)
  ·split
   ·exact aW
   ·refine cK (cK ?_);split
    ·exact aW
    ·split
     ·exact aW
     ·exact cK (cK da)
  ·exact aW
theorem Oa {P t a x s}:qZ (Au P t a x s):=by
 unfold Au;split
 ·exact aW
 ·split
  ·exact aW
  ·refine cK ?_;split
   ·unfold wo;split
    ·exact aW
    ·exact cK (cK da)
   ·exact aW
theorem Jy {P t x s}:qZ (qk P t x s):=by
 unfold qk;split
 ·exact aW
 ·split
  ·unfold wo;split
   ·exact aW
   ·exact cK (cK da)
  ·exact da
  ·exact aW
theorem J7 {P t s m k}:kN (qD P t s m k):=by
 unfold qD;split
 ·exact aK
 ·split
  ·split
   ·refine nz λ_=>bU ?_;split
    ·exact aK
    ·exact bn
   ·exact aK
  ·exact aK
theorem NQ {P t s m k x}:qZ λK=>DV P t s m k x λs'=>K .un s':=by
 unfold DV;split
 ·exact aW
 ·split
  ·split
   ·split
    ·refine EZ λ_=>cK ?_;split
     ·exact aW
     ·exact cK da
    ·exact aW
   ·exact aW
  ·exact aW
theorem It {P t s m k}:kN (j0 P t s m k):=by
 unfold j0;split
 ·exact J7
 ·split
  ·split
   ·refine nz λ_=>bU ?_;split
    ·exact aK
    ·exact bn
   ·exact aK
  ·exact aK
theorem Gr {P t s m k x}:qZ λK=>xA P t s m k x λs'=>K .un s':=by
 unfold xA;split
 ·exact NQ
 ·split
  ·split
   ·split
    ·refine EZ λ_=>cK ?_;split
     ·exact aW
     ·exact cK da
    ·exact aW
   ·exact aW
  ·exact aW
theorem F5 {P t r s}:qZ (oW P t r s):=cK da
def Nr (o:Oper):Bool :=
 match o.op with
 |.call c=>match c.callee with
  |.value _=>true
  |_=>false
 |_=>false
theorem Nf {P o e s} (hc:Nr o=false):qZ (dg P o e s):=by
 obtain⟨dst,op,ty,pos,after,guard⟩:=o;unfold dg;cases op <;> simp only
 case move=>exact da
 case assign=>exact da
 case pick=>exact Lb
 case alloc=>exact Mj
 case box=>exact Qu
 case build=>exact gp KZ
 case buildSlice=>exact Az
 case load=>exact gp M1
 case store=>exact LQ
 case nilCheck=>exact gp Q9
 case binOp op t x y t' =>
  cases Su y with
  |true=>exact gp KO
  |false=>exact gp Q6
 case unOp=>exact gp Tr
 case convert=>exact gp M4
 case makeFunc=>exact da
 case makeSlice=>exact Cy
 case slice=>exact gp JP
 case fieldAddr=>exact gp Cu
 case field=>exact gp Mp
 case indexAddr=>exact gp Cr
 case index=>exact gp K6
 case extract=>exact gp QI
 case makeMap=>exact F5
 case lookup t x i ok =>
  cases ok with
  |true=>exact aW
  |false=>exact gp It
 case mapUpdate=>exact Gr
 case insert=>exact Gr
 case call c =>
  unfold iJ;simp only[Nr]at hc;split
  ·rename_i h;rw[h]at hc;cases hc
  ·rename_i h;rw[h]at hc;cases hc
  ·split
   ·exact gp RC
   ·split
    ·exact I2
    ·exact FF
   ·exact cK Oa
   ·exact Jy
   ·exact gp (sE _ _)
   ·exact gp (sE _ _)
   ·exact gp Rn
   ·exact aW
  ·exact aW
 all_goals exact aW
def gI:V->List Nat
 |.rf id _ _ _=>[id]
 |.pp id _ _ _ _ _=>[id]
 |.so id _ _ _=>[id]
 |.mp id _=>[id]
 |_=>[]
def td (e:Env) (o:Oper):List Nat :=
 match o.op with
 |.move _|.assign _|.pick ..|.build ..|.buildSlice ..|.makeFunc ..=>[]
 |.load _ a=>gI (xt (e 0) (ev e a))
 |.call ⟨.builtin .len,_,_⟩=>[]
 |_=>o.op.operands.toList.flatMap λx=>gI (ev e x)
def Rs (o:Oper):Bool :=
 match o.op with
 |.move _|.assign _|.pick ..|.build ..|.buildSlice ..|.load ..|.nilCheck _|.binOp ..|.unOp ..|.convert ..|.makeFunc ..|.slice ..|.fieldAddr ..|.field ..|.indexAddr ..|.index ..|.extract ..|.lookup ..=>true
 |.call c=>match c.callee with
  |.builtin .len=>true
  |.builtin .min=>true
  |.builtin .max=>true
  |.builtin .append=>true
  |_=>false
 |_=>false
section
variable {P:Program}{s s':List Obj}
variable{id:Nat}{p:V}{t:TypeId}{op:BinOp}{x:V}{v:V}
theorem gK {g:Nat} (h:s'[id]?=s[id]?) (K:Obj->Prop):wo s id g K=wo s' id g K:=by unfold wo;rw[h]
theorem Jm (h:∀id∈gI p,s'[id]?=s[id]?) (K:V->Prop):mz P t s p K=mz P t s' p K:=by
 unfold mz;cases cH P t with
 |none=>rfl
 |some i =>
  cases p with
  |rf id g k off=>simp only[h id (by simp [gI])]
  |pp id g k off b a=>simp only[h id (by simp [gI])]
  |d x=>cases x <;> rfl
  |_=>rfl
theorem Ag{f:Nat} (h:∀id∈gI p,s'[id]?=s[id]?) (K:V->Prop):fh P t s p f K=fh P t s' p f K:=by
 unfold fh;cases br P t f with
 |none=>rfl
 |some d =>
  cases p with
  |rf id g k off=>simp only[gK (h id (by simp [gI]))]
  |pp id g k off b a=>simp only[gK (h id (by simp [gI]))]
  |d x=>simp only;split <;> first|rfl|(rename_i he;cases he)
  |_=>rfl
theorem Ak{i:V} (h:∀id∈gI p,s'[id]?=s[id]?) (K:V->Prop):dT P t s p i K=dT P t s' p i K:=by
 unfold dT;split
 ·split
  ·cases p with
   |so id g lo n=>simp only[gK (h id (by simp [gI]))]
   |d x=>cases x <;> rfl
   |_=>rfl
  ·split
   ·cases p with
    |rf id g k off=>simp only[gK (h id (by simp [gI]))]
    |d x=>cases x <;> rfl
    |_=>rfl
   ·rfl
 ·rfl
theorem L2 (K:V->Prop):mo P t p s K=mo P t p s' K:=by
 unfold mo;split
 ·cases p with
  |so id g lo n=>rfl
  |d x=>cases x <;> rfl
  |_=>rfl
 ·rfl
 ·rfl
theorem FY{k:V} (h:∀id∈gI p,s'[id]?=s[id]?) (K:V->Prop):qD P t s p k K=qD P t s' p k K:=by
 unfold qD;cases Ec P t with
 |none=>rfl
 |some ik =>
  cases p with
  |mp id g=>simp only[gK (h id (by simp [gI]))]
  |_=>rfl
theorem EX{k:V} (h:∀id∈gI p,s'[id]?=s[id]?) (K:V->Prop):j0 P t s p k K=j0 P t s' p k K:=by
 unfold j0;cases KA P t with
 |none=>exact FY h K
 |some ik =>
  cases p with
  |mp id g=>simp only[gK (h id (by simp [gI]))]
  |_=>rfl
theorem Kz (h:∀id∈gI p,s'[id]?=s[id]?) (K:V->Prop):kD s p K=kD s' p K:=by
 cases p with
 |rf id g k off=>simp only[kD,gK (h id (by simp [gI]))]
 |pp id g k off b a=>simp only[kD,gK (h id (by simp [gI]))]
 |d x=>unfold kD;split <;> first|rfl|(rename_i he;cases he)
 |cl f a b=>cases f <;> rfl
 |_=>rfl
theorem Fk (h:∀id∈gI p,s'[id]?=s[id]?):jj s p=jj s' p:=by
 unfold jj;cases p with
 |so id g lo n=>simp only[h id (by simp [gI])]
 |d x=>cases x <;> rfl
 |_=>rfl
theorem Gi{lo hi mx:Option V} (h:∀id∈gI p,s'[id]?=s[id]?) (K:V->Prop):ma P t p lo hi mx s K=ma P t p lo hi mx s' K:=by
 unfold ma;rw[Fk h];split
 ·rfl
 ·split
  ·rfl
  ·split
   ·congr 1;cases mx with
    |none =>
     cases p with
     |so id g lo n=>simp only[gK (h id (by simp [gI]))]
     |d x=>cases x <;> rfl
     |_=>rfl
    |some m =>
     cases p with
     |d x=>cases x <;> rfl
     |_=>rfl
   ·rfl
theorem Gc (h:∀id∈gI p,s'[id]?=s[id]?) (K:V->Prop):eI P op t s p K=eI P op t s' p K:=by
 unfold eI;cases p with
 |so id g lo n=>cases n <;> simp only[gK (h id (by simp [gI]))]
 |d x=>cases x with
  |sl aw=>cases aw <;> rfl
  |_=>rfl
 |fu aw=>cases aw <;> rfl
 |_=>rfl
theorem BY (h:∀id∈gI p,s'[id]?=s[id]?):qn s p=qn s' p:=by
 unfold qn;cases p with
 |rf id g k off=>simp only[gK (h id (by simp [gI]))]
 |pp id g k off b a=>simp only[gK (h id (by simp [gI]))]
 |d x=>cases x <;> rfl
 |_=>rfl
theorem IF{y:V} (h:∀id∈gI x,s'[id]?=s[id]?) (h':∀id∈gI y,s'[id]?=s[id]?) (K:V->Prop):dG P op t s x y K=dG P op t s' x y K:=by unfold dG;split <;> simp only[BY h,BY h']
theorem Mc{y:V} (h:∀id∈gI x,s'[id]?=s[id]?) (h':∀id∈gI y,s'[id]?=s[id]?) (K:V->Prop):qP P op t s x y K=qP P op t s' x y K:=by
 unfold qP;split
 ·rfl
 ·exact IF h h' K
theorem Yx {s:List Obj}{o n:Obj} (ho:s[id]?=some o) (hn:n.g≠o.g):s.set id n≠s:=by intro h;have h1:=ajm (a:=n) (List.getElem?_eq_some_iff.1 ho).1;rw[h,ho]at h1;cases h1;exact hn rfl
theorem LK{a:V} (h:∀id∈gI a,s'[id]?=s[id]?) (h':∀id∈gI x,s'[id]?=s[id]?) (hw:dj P t a x s λv' s1=>v'=v/\s1=s):dj P t a x s' λv' s1=>v'=v/\s1=s':=by
 unfold dj at hw ⊢;rw[Fk h']at hw;split at hw
 ·exact hw.elim
 rename_i i hi;split at hw
 ·exact hw.elim
 rename_i ns yH;refine⟨hw.1,?_⟩;have hw:=hw.2;split at hw
 ·split at hw
  ·exact⟨hw.1,hw.2.1,rfl⟩
  ·exact absurd (congrArg List.length hw.2.2) aj
 ·exfalso;obtain⟨o,ho,hg,⟨_,_,hs⟩⟩:=eQ hw;exact Yx ho oG hs
 ·exact hw.elim
theorem Gb {t':TypeId}{a:V} (hw:lJ P t t' a x s λv' s1=>v'=v/\s1=s):False:=by
 unfold lJ at hw;split at hw
 ·exact hw
 ·split at hw
  ·split at hw
   ·exact absurd (congrArg List.length hw.2.2) aj
   ·exact hw
  ·exact hw
theorem Kv {o:Oper}{e:Env} (hr:Rs o=true) (h:∀id∈td e o,s'[id]?=s[id]?) (hw:dg P o e s λv' s1=>v'=v/\s1=s):dg P o e s' λv' s1=>v'=v/\s1=s':=by
 obtain⟨dst,op,ty,pos,after,guard⟩:=o;have rd:(td e ⟨dst,op,ty,pos,after,guard⟩=op.operands.toList.flatMap λx=>gI (ev e x))->∀x∈op.operands.toList,∀id∈gI (ev e x),s'[id]?=s[id]?:=λhe x hx id du=>h id (by rw[he];exact List.mem_flatMap.2 ⟨x,hx,du⟩);unfold dg at hw ⊢;cases op <;> simp only[Rs,ajf]at hr <;> simp only at hw ⊢
 case move=>exact hw
 case assign=>exact hw
 case pick=>simpa using hw
 case build=>exact hw
 case buildSlice =>
  unfold e9 at hw ⊢;split at hw
  ·exact hw.elim
  ·refine⟨hw.1,?_⟩;have hw:=hw.2;split at hw
   ·exact hw.elim
   ·split at hw
    ·exact⟨hw.1,rfl⟩
    ·exact absurd (congrArg List.length hw.2) aj
 case load t a=>rw[Jm (λid du=>h id (by simpa [td]using du))]at hw;exact hw
 case nilCheck a=>rw[Kz (rd rfl a (by simp [Op.operands]))]at hw;exact hw
 case binOp op t x y t' =>
  cases hn:Su y with
  |true=>rw[hn]at hw;simp only[cond_true]at hw ⊢;rw[Gc (rd rfl x (by simp [Op.operands]))]at hw;exact hw
  |false=>rw[hn]at hw;simp only[cond_false]at hw ⊢;rw[Mc (rd rfl x (by simp [Op.operands])) (rd rfl y (by simp [Op.operands]))]at hw;exact hw
 case unOp=>exact hw
 case convert=>exact hw
 case makeFunc=>exact hw
 case slice t x lo hi mx=>rw[Gi (rd rfl x (by simp [Op.operands]))]at hw;exact hw
 case fieldAddr t x f=>rw[Ag (rd rfl x (by simp [Op.operands]))]at hw;exact hw
 case field=>exact hw
 case indexAddr t x i=>rw[Ak (rd rfl x (by simp [Op.operands]))]at hw;exact hw
 case index=>exact hw
 case extract=>exact hw
 case lookup t x i ok =>
  cases ok with
  |true=>exact hw.elim
  |false=>simp only[cond_false]at hw ⊢;rw[EX (rd rfl x (by simp [Op.operands]))]at hw;exact hw
 case call c =>
  obtain⟨callee,args,argTypes⟩:=c;cases callee with
  |value f=>cases hr
  |invoke r m=>cases hr
  |builtin b =>
   unfold iJ at hw ⊢;simp only at hw ⊢ hr;split at hw
   ·rename_i x t ha ht;rw[L2 (s':=s')]at hw;exact hw
   ·rename_i a x t t' ha ht;split at hw
    ·rename_i htt;rw[be htt];exact LK (rd rfl a (by simp [Op.operands,Call.operands,ha])) (rd rfl x (by simp [Op.operands,Call.operands,ha])) hw
    ·exact(Gb hw).elim
   ·first|(cases hr;done)|(simp at hr;done)
   ·first|(cases hr;done)|(simp at hr;done)
   ·exact hw
   ·exact hw
   ·first|exact hw|(cases hr;done)|(simp at hr;done)
   ·exact hw.elim
end
variable{lV:Nat}{o:Obj}{id:Nat}{s:List Obj}{σ:Gh}{w:World}{P:Program}{u:Value}{x:V}{e:Env}{L:Nat}{n:Nat}{w0:World}{σ0:Gh}{w1:World}{ob:Obj}{σ1:Gh}{ux:Value}{cl:Nat}{ua:Value}{lo:Nat}{ns:List (List V)}{ty:TypeId}{t:TypeId}{ch:Nat}
def bP (s:List Obj) (id:Nat):List Obj :=
 match s[id]? with
 |some o=>s.set id { o with live:=false }
 |none=>s
def bA (s:List Obj):List Nat->List Obj
 |[]=>s
 |id::ids=>bA (bP s id) ids
theorem kv (h:(bP s id)[lV]?=some o):∃o',s[lV]?=some o'/\o.g=o'.g/\o.sz=o'.sz/\o.aw=o'.aw/\(o.live=true->o'.live=true):=by
 unfold bP at h;split at h
 ·rename_i o0 ho0;rw[List.getElem?_set]at h;split at h
  ·rename_i he;subst he;split at h
   ·simp only[ai5]at h;subst h;exact⟨o0,ho0,rfl,rfl,rfl,λh=>by cases h⟩
   ·cases h
  ·exact⟨o,h,rfl,rfl,rfl,λh=>h⟩
 ·exact⟨o,h,rfl,rfl,rfl,λh=>h⟩
theorem TQ (h:s[lV]?=some o):∃o',(bP s id)[lV]?=some o'/\o'.g=o.g/\o'.sz=o.sz:=by
 unfold bP;split
 ·rename_i o0 ho0;rw[List.getElem?_set];split
  ·rename_i he;subst he;rw[ho0]at h;cases h;rw[be (List.getElem?_eq_some_iff.1 ho0).1];exact⟨_,rfl,rfl,rfl⟩
  ·exact⟨o,h,rfl,rfl⟩
 ·exact⟨o,h,rfl,rfl⟩
theorem uX (hI:Inv σ s w) (id:Nat):aG σ s w σ (bP s id) w/\Inv σ (bP s id) w:=by
 have own:∀b,Own σ (bP s id) b->Own σ s b:=by
  rintro b (h|⟨lV,o,base,h1,h2,h3⟩)
  ·exact .inl h
  ·obtain⟨o',k1,_,_,_,k5⟩:=kv h1;exact .inr ⟨lV,o',base,k1,k5 h2,h3⟩
 have hE:aG σ s w σ (bP s id) w:=⟨rfl,rfl,rfl,ajc _,λ_ _ _=>rfl,λ_ arr _ _ h=>⟨arr,h,rfl⟩,λ_ _ h=>h,λb h=>.inl (own b h),
  λlV o ho=>let ⟨o',k1,k2,k3⟩:=TQ (id:=id) ho;⟨o',k1,ae,λ_=>⟨k3,rfl⟩⟩,rfl,λ_ _ _=>rfl⟩
 refine⟨hE,⟨λlV o ho=>?_,λi i' o o' b base bQ h1 h2 h3 h4 h5=>?_,hI.low,λi o b base h1 h2=>?_⟩⟩
 ·obtain⟨o',k1,_,k3,k4,_⟩:=kv ho;rw[k4,k3];rcases hI.content lV o' k1 with h|⟨b,base,arr,E,h1,h2,h3,h4,h5⟩
  ·exact .inl (h.congr k4)
  ·exact .inr ⟨b,base,arr,E,h1,h2,h3,h4,λi j x hx=>let ⟨u,g1,g2,g3⟩:=h5 i j x hx;⟨u,g1,g2,g3.aZ hE⟩⟩
 ·obtain⟨p,k1,_,_,_,k5⟩:=kv h1;obtain⟨p',l1,_⟩:=kv h2;exact hI.inj i i' p p' b base bQ k1 l1 (k5 h3) h4 h5
 ·obtain⟨p,k1,_⟩:=kv h1;exact hI.apart i p b base k1 h2
theorem vm {σ:Gh}{w:World}:∀(ids:List Nat) (s:List Obj),Inv σ s w->aG σ s w σ (bA s ids) w/\Inv σ (bA s ids) w
 |[],s,hI=>⟨aG.refl _ _ _,hI⟩
 |id::ids,s,hI=>by obtain⟨h1,h2⟩:=uX hI id;obtain⟨k1,k2⟩:=vm ids (bP s id) h2;exact⟨h1.trans k1,k2⟩
theorem bL{f:FuncId}{args cargs:List V}{K:V->List Obj->Prop} (ids:List Nat) (hc:bm.go (bA s ids).length (bA s ids) args=some cargs) (h:az P f cargs (bA s ids) K):az P f args s K:=by
 refine⟨h.1,λσ w vals hI hl hv=>?_⟩;obtain⟨hE,ko⟩:=vm ids s hI;obtain⟨k1,k2⟩:=vz hc;refine(h.2 σ w vals ko ae λi x hx=>?_).mono λe w' ⟨u,v,σ',s',h1,h2,h3,h4,h5⟩=>⟨u,v,σ',s',h1,hE.trans h2,h3,h4,h5⟩
 obtain⟨y,hy,hf⟩:=k2 i x hx;have:=mR ko ((hv i y hy).aZ hE) hf;rwa [ajt]at this
def gm (lim:Nat) (s:List Obj) (x:V):V:=(bm lim s x).getD .any
def A0 (lim:Nat) (s:List Obj) (ba:List Nat) (e:Env):Env:=λt=>if ba.contains t then gm lim s (e t) else .any
def ln (lim:Nat) (s:List Obj):List Obj:=(s.take lim).map λo=>{ o with aw:=o.aw.map λc=>c.map (gm lim s) }
theorem uP (hI:Inv σ s w) {lim:Nat} (hr:aC σ s w x u):aC σ (s.take lim) w (gm lim s x) u:=by
 unfold gm;cases h:bm lim s x with
 |none=>exact .any
 |some y=>exact mR hI hr h
theorem bJ.Z8 (lim:Nat) (hL:L<=lim) (ba:List Nat):∀(σ0:Gh) (s0:List Obj) (w0:World) (σ:Gh) (w:World) (N:Nat) (a:Act),s0.length<=L->aG σ0 s0 w0 σ s w->Inv σ s w->eC σ s w N e a ->
  aG σ0 s0 w0 σ (ln lim s) w/\Inv σ (ln lim s) w/\eC σ (ln lim s) w N (A0 lim s ba e) a:=by
 intro σ0 s0 w0 σ w N a nR hE hI hR;have Tp:=hE.take (lim:=lim) ae;have get:∀(id:Nat) (o:Obj),(ln lim s)[id]?=some o->∃o',(s.take lim)[id]?=some o'/\o={ o' with aw:=o'.aw.map λc=>c.map (gm lim s) }:=by intro id o ho;unfold ln at ho;rw[aiY]at ho;obtain⟨o',h1,h2⟩:=Option.map_eq_some_iff.1 ho;exact⟨o',h1,h2.symm⟩
 have Du:aG σ (s.take lim) w σ (ln lim s) w:=by
  refine⟨rfl,rfl,rfl,ajc _,λ_ _ _=>rfl,λ_ arr _ _ h=>⟨arr,h,rfl⟩,λ_ _ h=>h,λb hb=>.inl ?_,λid o ho=>?_,rfl,λ_ _ _=>rfl⟩
  ·rcases hb with h|⟨id,o,base,h1,h2,h3⟩
   ·exact .inl h
   ·obtain⟨o',k1,rfl⟩:=get id o h1;exact .inr ⟨id,o',base,k1,h2,h3⟩
  ·exact⟨{ o with aw:=o.aw.map λc=>c.map (gm lim s) },by unfold ln;rw[aiY,ho];rfl,ajc _,λ_=>⟨rfl,rfl⟩⟩
 refine⟨Tp.trans Du,⟨λid o ho=>?_,λi i' o o' b base bQ h1 h2 h3 h4 h5=>?_,hI.low,λi o b base h1 h2=>?_⟩,⟨hR.1,hR.2.1,λt=>?_⟩⟩
 ·obtain⟨o',k1,rfl⟩:=get id o ho;have k2:s[id]?=some o':=by rw[ajA]at k1;split at k1 <;> simp_all
  rcases hI.content id o' k2 with (⟨h1,h2⟩|⟨b,es,c,h1,h2,h3⟩)|⟨b,base,arr,E,h1,h2,h3,h4,h5⟩
  ·exact .inl (.inl ⟨h1,by simp [h2]⟩)
  ·refine .inl (.inr ⟨b,es,c,h1,h2,?_⟩);simp only[h3,fZ,ajL];apply ajK;intro e _;rfl
  ·refine .inr ⟨b,base,arr,E,h1,h2,λc hc=>?_,by simpa using h4,λi j x hx=>?_⟩
   ·obtain⟨c',MT,rfl⟩:=List.mem_map.1 hc;simpa using h3 c' MT
   ·simp only[aiY]at hx;cases hi:o'.aw[i]? with
    |none=>simp [hi]at hx
    |some c =>
     simp only[hi,ai3,ajM,aiY]at hx;obtain⟨y,hy,rfl⟩:=Option.map_eq_some_iff.1 hx;obtain⟨u,g1,g2,g3⟩:=h5 i j y (by simp [hi,hy]);exact⟨u,g1,g2,(uP hI g3).aZ Du⟩
 ·obtain⟨p,k1,rfl⟩:=get _ _ h1;obtain⟨p',l1,rfl⟩:=get _ _ h2;have k2:s[i]?=some p:=by rw[ajA]at k1;split at k1 <;> simp_all
  have l2:s[i']?=some p':=by rw[ajA]at l1;split at l1 <;> simp_all
  exact hI.inj i i' p p' b base bQ k2 l2 h3 h4 h5
 ·obtain⟨p,k1,rfl⟩:=get _ _ h1;have k2:s[i]?=some p:=by rw[ajA]at k1;split at k1 <;> simp_all
  exact hI.apart i p b base k2 h2
 ·unfold A0;split
  ·exact(uP hI (hR.2.2 t)).aZ Du
  ·exact .any
theorem bJ.drop (lim:Nat) (hL:L<=lim) (ba:List Nat):bJ L e s (A0 lim s ba e) (ln lim s) :=
 λσ0 s0 w0 σ w N a h1 h2 h3 h4=>⟨σ,bJ.Z8 lim hL ba σ0 s0 w0 σ w N a h1 h2 h3 h4⟩
theorem bJ.kill (ids:List Nat):bJ L e s e (bA s ids):=by intro σ0 s0 w0 σ w N a nR hE hI hR;obtain⟨h1,h2⟩:=vm ids s hI;exact⟨σ,hE.trans h1,h2,hR.aZ h1⟩
theorem bJ.K5 (ids:List Nat) (lim:Nat) (hL:L<=lim) (ba:List Nat):bJ L e s (A0 lim (bA s ids) ba e) (ln lim (bA s ids)) :=
 (bJ.kill ids).trans (bJ.drop lim hL ba)
theorem nI {lim:Nat}:∀{l:List V},(∀(i:Nat) (x:V),l[i]?=some x->ak lim x=true)->ak.go lim l=true
 |[],_=>rfl
 |v::vs,h=>by simp only[ak.go,aji];exact⟨h 0 v rfl,nI λi x hx=>h (i+1) x (by simpa using hx)⟩
theorem gN (h:s[id]?=some o):id<s.length:=(List.getElem?_eq_some_iff.1 h).1
theorem aC.YG (h:aC σ s w x u):ak s.length x=true:=by
 induction h with
 |d hx=>rfl
 |ag h1 h2 _ ih=>exact nI ih
 |tu h1 _ ih=>exact nI ih
 |fu hx=>rfl
 |so o ho hg hu hk=>exact bi (gN ho)
 |rf o ho hg hu hk=>exact bi (gN ho)
 |pp o ho hg hk=>exact bi (gN ho)
 |mp o ho hg hu hk=>exact bi (gN ho)
 |bx h1 h2 h3 hu _ ih=>exact ih
 |cap h1 _ ih=>exact ih
 |cl h1 _ h3 _ Aq gy =>
  simp only[ak,aji];exact⟨nI Aq,nI gy⟩
 |un=>rfl
 |any=>rfl
theorem aC.SJ {σ':Gh}{s':List Obj} (jz:∀b,Own σ' s' b->Own σ s b)
  (hobj:∀id o,id<n->s[id]?=some o->∃o',s'[id]?=some o'/\o.g<=o'.g/\(o'.g=o.g->o'.sz=o.sz/\σ' id=σ id)) (hr:aC σ s w x u) (h:ak n x=true):aC σ' s' w x u:=by
 induction hr with
 |d hx=>exact .d (hx.own jz)
 |ag h1 h2 _ ih=>exact .ag h1 h2 λi x hx=>ih i x hx (dR (by simpa only[ak]using h) i x hx)
 |tu h1 _ ih=>exact .tu h1 λi x hx=>ih i x hx (dR (by simpa only[ak]using h) i x hx)
 |fu hx=>exact .fu (hx.own jz)
 |so o ho hg hu hk =>
  simp only[ak,decide_eq_true_eq]at h;obtain⟨o',h1,h2,h3⟩:=hobj _ o h ho;refine .so o' h1 (aj0 hg h2) hu λhe=>?_;have e:o'.g=o.g:=ae;have:=hk ae;unfold AI at this ⊢;rw[(h3 e).1,(h3 e).2];exact this
 |rf o ho hg hu hk =>
  simp only[ak,decide_eq_true_eq]at h;obtain⟨o',h1,h2,h3⟩:=hobj _ o h ho;refine .rf o' h1 (aj0 hg h2) hu λhe=>?_;have e:o'.g=o.g:=ae;rw[(h3 e).1,(h3 e).2];exact hk ae
 |pp o ho hg hk =>
  simp only[ak,decide_eq_true_eq]at h;obtain⟨o',h1,h2,h3⟩:=hobj _ o h ho;refine .pp o' h1 (aj0 hg h2) λhe=>?_;have e:o'.g=o.g:=ae;rw[(h3 e).1,(h3 e).2];exact hk ae
 |mp o ho hg hu hk =>
  simp only[ak,decide_eq_true_eq]at h;obtain⟨o',h1,h2,h3⟩:=hobj _ o h ho;refine .mp o' h1 (aj0 hg h2) hu λhe=>?_;have e:o'.g=o.g:=ae;rw[(h3 e).2];exact hk ae
 |bx h1 h2 h3 hu _ ih=>exact .bx h1 h2 (λh'=>h3 (jz _ h')) hu (ih (by simpa only[ak]using h))
 |cap h1 _ ih=>exact .cap h1 (ih (by simpa only[ak]using h))
 |cl h1 _ h3 _ Aq gy =>
  simp only[ak,aji]at h;exact .cl h1 (λi x hx=>Aq i x hx (dR h.1 i x hx)) h3 (λi x hx=>gy i x hx (dR h.2 i x hx))
 |un=>exact .un
 |any=>exact .any
def ud (σ:Gh) (h n:Nat):Gh:=⟨λk=>if k=h then σ n else if n<=k then none else σ k,σ.base⟩
theorem Em{h:Nat} (hI0:Inv σ0 s w0) (hE:aG σ0 s w0 σ1 (s++[o]) w1) (hI:Inv σ1 (s++[o]) w1) (hh:s[h]?=some ob) (UC:o.live=true)
  (hd:∀(i j:Nat) (x:V),(o.aw[i]?.bind (·[j]?))=some x->ak 0 x=true\/ak s.length x=true) :
  aG σ0 s w0 (ud σ1 h s.length) (s.set h ⟨ob.g+1,true,o.sz,o.aw⟩) w1/\Inv (ud σ1 h s.length) (s.set h ⟨ob.g+1,true,o.sz,o.aw⟩) w1 /\
   ∀lo n u,aC σ1 (s++[o]) w1 (.so s.length o.g lo n) u->aC (ud σ1 h s.length) (s.set h ⟨ob.g+1,true,o.sz,o.aw⟩) w1 (.so h (ob.g+1) lo n) u:=by
 have aB:=gN hh;have B7:(s.set h ⟨ob.g+1,true,o.sz,o.aw⟩)[h]?=some ⟨ob.g+1,true,o.sz,o.aw⟩:=by simp [aB]
 have nT:∀k,k≠h->(s.set h (⟨ob.g+1,true,o.sz,o.aw⟩:Obj))[k]?=s[k]?:=λk hk=>by rw[ajy (λe=>hk e.symm)]
 have Ci:(s++[o])[s.length]?=some o:=aj;have hold:∀k ok,s[k]?=some ok->(s++[o])[k]?=some ok:=λk ok hk=>by rw[ajj (gN hk)];exact hk
 have gh:ud σ1 h s.length h=σ1 s.length:=be rfl;have go:∀k ok,k≠h->s[k]?=some ok->ud σ1 h s.length k=σ1 k:=λk ok hk hs=>by show (if k=h then _ else if s.length<=k then _ else _)=_;rw[ap hk,ap (by have:=gN hs;omega)]
 have jz:∀b,Own (ud σ1 h s.length) (s.set h ⟨ob.g+1,true,o.sz,o.aw⟩) b->Own σ1 (s++[o]) b:=by
  rintro b (hb|⟨k,ok,base,h1,h2,h3⟩)
  ·exact .inl hb
  ·by_cases hk:k=h
   ·subst hk;rw[gh]at h3;exact .inr ⟨s.length,o,base,Ci,UC,h3⟩
   ·rw[nT k hk]at h1;rw[go k ok hk h1]at h3;exact .inr ⟨k,ok,base,hold k ok h1,h2,h3⟩
 have hobj:∀id o1,id<s.length->(s++[o])[id]?=some o1->∃o',(s.set h ⟨ob.g+1,true,o.sz,o.aw⟩)[id]?=some o'/\o1.g<=o'.g/\(o'.g=o1.g->o'.sz=o1.sz/\ud σ1 h s.length id=σ1 id):=by
  intro id o1 du h1;rw[ajj du]at h1;by_cases hk:id=h
  ·subst hk;rw[hh]at h1;cases h1;exact⟨_,B7,Nat.le_succ _,λhe=>by simp at he⟩
  ·exact⟨o1,by rw[nT id hk];exact h1,ajc _,λ_=>⟨rfl,go id o1 hk h1⟩⟩
 have Du:aG σ0 s w0 (ud σ1 h s.length) (s.set h ⟨ob.g+1,true,o.sz,o.aw⟩) w1:=by refine⟨hE.os,hE.tape,hE.output,hE.size,hE.ba,hE.shape,hE.qY,λb hb=>hE.own b (jz b hb),λid o1 h1=>?_,hE.base,hE.gW⟩;obtain⟨o2,k1,k2,k3⟩:=hE.Aj id o1 h1;have du:=gN h1;obtain⟨o3,j1,j2,j3⟩:=hobj id o2 du k1;exact⟨o3,j1,aj0 k2 j2,λhe=>⟨(j3 ae).1.trans (k3 ae).1,(j3 ae).2.trans (k3 ae).2⟩⟩
 have hrefs:∀(id:Nat) (o1:Obj),s[id]?=some o1->∀(i j:Nat) (x:V),(o1.aw[i]?.bind (·[j]?))=some x->ak s.length x=true:=by
  intro id o1 h1 i j x hx;rcases hI0.content id o1 h1 with (⟨_,he⟩|⟨b,es,c,_,_,he⟩)|⟨b,base,arr,E,_,_,_,_,h5⟩
  ·rw[he]at hx;simp at hx
  ·rw[he]at hx;unfold fZ at hx;rw[aiY]at hx;cases GQ:es.toList[i]? with
   |none=>rw[GQ]at hx;cases hx
   |some y =>
    rw[GQ]at hx;simp only[ai3,ajM]at hx
    match j with
    |0=>simp at hx;subst hx;rfl
    |1=>simp at hx;subst hx;rfl
    |j+2=>simp at hx
  ·obtain⟨u,_,_,h6⟩:=h5 i j x hx;exact h6.YG
 refine⟨Du,⟨?_,?_,hI.low,?_⟩,?_⟩
 ·intro id o1 h1;by_cases hk:id=h
  ·subst hk;rw[B7]at h1;cases h1;rw[gh];rcases hI.content _ _ Ci with hb|⟨b,base,arr,E,k1,k2,k3,k4,k5⟩
   ·exact .inl (hb.congr rfl)
   ·refine .inr ⟨b,base,arr,E,k1,k2,k3,k4,λi j x hx=>?_⟩;obtain⟨u,j1,j2,j3⟩:=k5 i j x hx;rcases hd i j x hx with Xm|Xm
    ·exact⟨u,j1,j2,j3.move Xm jz⟩
    ·exact⟨u,j1,j2,aC.SJ jz hobj j3 Xm⟩
  ·rw[nT id hk]at h1;rw[go id o1 hk h1];rcases hI.content _ _ (hold id o1 h1) with hb|⟨b,base,arr,E,k1,k2,k3,k4,k5⟩
   ·exact .inl hb
   ·refine .inr ⟨b,base,arr,E,k1,k2,k3,k4,λi j x hx=>?_⟩;obtain⟨u,j1,j2,j3⟩:=k5 i j x hx;exact⟨u,j1,j2,aC.SJ jz hobj j3 (hrefs id o1 h1 i j x hx)⟩
 ·intro k k' o1 o2 b base bQ h1 h2 h3 h4 h5;by_cases hk:k=h <;> by_cases tz:k'=h
  ·rw[hk,tz]
  ·subst hk;rw[gh]at h4;rw[nT k' tz]at h2;rw[go k' o2 tz h2]at h5;have:=hI.inj _ _ _ _ _ _ _ Ci (hold k' o2 h2) UC h4 h5;have:=gN h2;omega
  ·subst tz;rw[gh]at h5;rw[nT k hk]at h1;rw[go k o1 hk h1]at h4;have:=hI.inj _ _ _ _ _ _ _ (hold k o1 h1) Ci h3 h4 h5;have:=gN h1;omega
  ·rw[nT k hk]at h1;rw[nT k' tz]at h2;rw[go k o1 hk h1]at h4;rw[go k' o2 tz h2]at h5;exact hI.inj _ _ _ _ _ _ _ (hold k o1 h1) (hold k' o2 h2) h3 h4 h5
 ·intro k o1 b base h1 h2;by_cases hk:k=h
  ·subst hk;rw[gh]at h2;exact hI.apart _ _ _ _ Ci h2
  ·rw[nT k hk]at h1;rw[go k o1 hk h1]at h2;exact hI.apart _ _ _ _ (hold k o1 h1) h2
 ·intro lo n u hu;cases hu with|so o1 h1 h2 h3 h4=>?_
  rw[Ci]at h1;cases h1;refine .so _ B7 (ajc _) h3 λ_=>?_;have:=h4 rfl;unfold AI at this ⊢;rw[gh];exact this
theorem oX{h:Nat} (hI0:Inv σ0 s w0) (hE:aG σ0 s w0 σ1 (s++[o]) w1) (hI:Inv σ1 (s++[o]) w1) (hh:s[h]?=some ob) (UC:o.live=true)
  (hd:∀(i j:Nat) (x:V),(o.aw[i]?.bind (·[j]?))=some x->ak 0 x=true) :
  aG σ0 s w0 (ud σ1 h s.length) (s.set h ⟨ob.g+1,true,o.sz,o.aw⟩) w1/\Inv (ud σ1 h s.length) (s.set h ⟨ob.g+1,true,o.sz,o.aw⟩) w1 /\
   ∀lo n u,aC σ1 (s++[o]) w1 (.so s.length o.g lo n) u->aC (ud σ1 h s.length) (s.set h ⟨ob.g+1,true,o.sz,o.aw⟩) w1 (.so h (ob.g+1) lo n) u:=Em hI0 hE hI hh UC λi j x hx=>.inl (hd i j x hx)
theorem KK{e:TypeId}{i:RF}{g:Nat}{xv:V} (hI:Inv σ s w) (ha:aC σ s w (.so id g lo n) ua) (hc:TY cl ch ua) (hx:aC σ s w xv ux) (yH:jj s xv=some ns)
  (hti:jk P t=some (e,i)) (ho:s[id]?=some o) (hg:o.g=g) (KX:o.sz=i.sz) (hz:∀e∈ns,e.length=i.sz) (lQ:0<i.sz) (UM:0<ns.length) (hlo:lo+n<=o.aw.length) (uT:o.live=true) (hr:n+ns.length<=cl) :
  ∃r σ' w',(Builtin.append_ #[t,t] ty #[ua,ux]).run P w=.ok r w'/\aG σ s w σ' (s.set id ⟨g,true,i.sz,o.aw.take (lo+n)++ns++o.aw.drop (lo+n+ns.length)⟩) w' /\
   Inv σ' (s.set id ⟨g,true,i.sz,o.aw.take (lo+n)++ns++o.aw.drop (lo+n+ns.length)⟩) w'/\aC σ' (s.set id ⟨g,true,i.sz,o.aw.take (lo+n)++ns++o.aw.drop (lo+n+ns.length)⟩) w' (.so id g lo (n+ns.length)) r:=by
 obtain⟨hu,hi⟩:=lE hti;obtain⟨ti,d,z,k1,k2,k3,k4,k5,k6,k7,k8,k9⟩:=iN hi;have Nd:z.cells.size=i.sz:=by rw[<- akt,k6,k7]
 obtain⟨ax,xK,rfl,Fc,Yp,news,n1,n2,n3,n4⟩:=ks hI hx yH hz;have xi:Src P ti.size t (.slice ax ns.length xK) ns.length news w:=by
  rw[k4];cases ax with
  |none =>
   have:ns=[]:=Fc rfl;subst this;simp at UM
  |some ad=>exact Src.ofSlice w hu ad ns.length xK news n1 (n3 ad rfl) n2
 obtain⟨Uh,Xj⟩:=pP hI;have iG:jj s (.so id g lo n)=some ((o.aw.drop lo).take n):=by simp [jj,ho,hg,hlo]
 have m7:((o.aw.drop lo).take n).length=n:=cG;have hoz:∀e∈o.aw,e.length=i.sz:=by
  intro e jn;rcases hI.content _ o ho with h0|⟨b,base,arr,E,h1,h2,h3,h4,h5⟩
  ·cases ha with|so o' jV FO RI hk=>?_
   rw[ho]at jV;cases jV;rcases hk hg with ⟨nR,_⟩|⟨b,bs,cp,E,arr,ef,hh,_⟩
   ·rw[h0.Ji nR]at jn;cases jn
   ·exact(h0.Cz ef ⟨arr,E,hh⟩).elim
  ·rw[<- KX];exact h3 e jn
 have VW:∀e∈(o.aw.drop lo).take n,e.length=i.sz:=λe he=>hoz e (akk (ajT he));obtain⟨base,cap,Fp,a1,a2,mH,o1,o2,o3,o4⟩:=ks hI ha iG VW;rw[m7]at Fp a2;cases ha with|so o' jV FO RI hk=>?_
 rw[ho]at jV;cases jV;have tz:=hk hg;have Fm:n+ns.length<=cap:=by have:=(hc _ _ _ Fp).1;omega
 rcases tz with ⟨nR,⟨aa,yZ⟩,rfl,rfl⟩|⟨b,bs,cp,E,arr,ef,hh,yZ,Bj,hfit⟩
 ·rw[Fp]at yZ;simp only[Value.slice.injEq]at yZ;omega
 rw[Fp]at yZ;simp only[Value.slice.injEq]at yZ;obtain⟨rfl,_,rfl⟩:=yZ;subst Fp;generalize i.sz=Z at *;subst KX;obtain⟨bb,bs',ahn,E2,q1,q2,q3,q4,q5⟩:∃b base arr E,σ id=some (b,base)/\w.heap[b]?=some (.cells arr E (0,0))/\(∀e∈o.aw,e.length=o.sz)/\base+o.aw.length*o.sz<=arr.size /\
   ∀i j x,(o.aw[i]?.bind (·[j]?))=some x->∃u,arr[base+i*o.sz+j]?=some u/\u.oneCell'=true/\aC σ s w x u:=by
  rcases hI.content _ o ho with h0|h0
  ·exact(h0.Cz ef ⟨arr,E,hh⟩).elim
  ·exact h0
 rw[ef]at q1;simp only[ai5,ajE]at q1;obtain⟨rfl,rfl⟩:=q1;rw[hh]at q2;simp only[ai5,Go.Obj.cells.injEq]at q2;obtain⟨rfl,rfl,_⟩:=q2;generalize hS:bs+(lo+n)*o.sz=S at *;have acJ:bs+lo*o.sz+n*o.sz=S:=by rw[<- hS,ajR];omega
 have hq:S+news.length<=arr.size:=by rw[n1,<- hS];have e1:(lo+cap)*o.sz=lo*o.sz+cap*o.sz:=ajR _ _ _;have e2:=ajD o.sz Fm;rw[ajR]at e2;rw[ajR];omega
 have ck:=run_storeCells_at P b S E news 0 arr w hh ae n2;simp only[aj5]at ck;generalize qE:(arr.toList.take S++news++arr.toList.drop (S+news.length)).toArray=cE at ck;have kg:cE.size=arr.size:=by rw[<- qE];simp;omega
 have hlS:(arr.toList.take S).length=S:=cG;have aB:∀p,p<S->cE[p]?=arr[p]?:=by intro p hp;rw[<- qE,List.getElem?_toArray,ajq,ajj cG,ajA,be hp,ajN]
 have iU:∀q,q<news.length->cE[S+q]?=news[q]?:=by intro q Fx;rw[<- qE,List.getElem?_toArray,ajq,ajh ae,hlS,ajj ae];congr 1;omega
 have hgt:∀p,S+news.length<=p->cE[p]?=arr[p]?:=by intro p hp;rw[<- qE,List.getElem?_toArray,ajq,ajh ae,hlS,ajh ae,ajU,ajN];congr 1;omega
 have UO:∀e∈o.aw.take (lo+n)++ns++o.aw.drop (lo+n+ns.length),e.length=o.sz:=by
  intro e he;rcases List.mem_append.1 he with he|he
  ·rcases List.mem_append.1 he with he|he
   ·exact hoz e (ajT he)
   ·exact hz e he
  ·exact hoz e (akk he)
 have X8:bs+(o.aw.take (lo+n)++ns++o.aw.drop (lo+n+ns.length)).length*o.sz<=arr.size:=by
  have hl:(o.aw.take (lo+n)++ns++o.aw.drop (lo+n+ns.length)).length=max (lo+n+ns.length) o.aw.length:=by simp only[ai6,aj3,List.length_drop];omega
  rw[hl];rcases Nat.le_total (lo+n+ns.length) o.aw.length with h'|h'
  ·rw[Nat.max_eq_right h'];exact q4
  ·rw[Nat.max_eq_left h'];have e3:(lo+n+ns.length)*o.sz<=(lo+cap)*o.sz:=ajD _ ae;omega
 have:=oO (p:=some (b,bs)) (o':=⟨g,true,o.sz,o.aw.take (lo+n)++ns++o.aw.drop (lo+n+ns.length)⟩) (w':=w.setRow b cE) hI ho uT rfl rfl rfl aj
  (λb1 _ dP=>setRow_other w b b1 cE (λe=>dP bs (by rw[ef,e])))
  (λb1 kW XT E1 he XD=>by
   rw[ef]at he;cases he;rw[hh]at XD;cases XD;exact⟨cE,setRow_heap w b arr cE E (0,0) hh,kg⟩)
  (λb1 kW he hm=>by
   rw[ef]at he;cases he;exact(HZ.notM ⟨arr,E,hh⟩ hm).elim)
  oG (λ_=>⟨rfl,ef.symm⟩) (λb1 kW he=>by cases he;exact .inl ⟨bs,ef⟩)
  (λhE=>.inr ⟨b,bs,cE,E,rfl,setRow_heap w b arr cE E (0,0) hh,UO,by rw[kg];exact X8,λi' j y hy=>by
   simp only at hy ⊢;obtain⟨el,tO,hj⟩:∃el,(o.aw.take (lo+n)++ns++o.aw.drop (lo+n+ns.length))[i']?=some el/\el[j]?=some y:=by
    cases Fx:(o.aw.take (lo+n)++ns++o.aw.drop (lo+n+ns.length))[i']? with
    |none=>rw[Fx]at hy;cases hy
    |some el=>rw[Fx]at hy;exact⟨el,rfl,hy⟩
   have QE:j<o.sz:=by have:=(List.getElem?_eq_some_iff.1 hj).1;rwa [UO el (ai4 tO)]at this
   have QN:(o.aw.take (lo+n)).length=lo+n:=cG;by_cases c1:i'<lo+n
   ·rw[ajq,ajj ae,ajA,be c1]at tO;obtain⟨u,u1,u2,u3⟩:=q5 i' j y (by rw[tO];exact hj);have gR:(i'+1)*o.sz<=(lo+n)*o.sz:=ajD _ ae;rw[ajR,Nat.one_mul]at gR;exact⟨u,by rw[aB _ ae];exact u1,u2,u3.aZ hE⟩
   ·by_cases c2:i'<lo+n+ns.length
    ·rw[ajq,ajh ae,QN,ajj ae]at tO;obtain⟨c,d1,d2,d3⟩:=n4 (i' - (lo+n)) j y (by rw[tO];exact hj);have hql:=(List.getElem?_eq_some_iff.1 d1).1;have Yl:bs+i'*o.sz+j=S+((i' - (lo+n))*o.sz+j):=by
      rw[<- hS,ajI bs,<- ajI bs,ajI,ajI];have:i'*o.sz=(lo+n)*o.sz+(i' - (lo+n))*o.sz:=by rw[<- ajR];congr 1;omega
      omega
     exact⟨c,by rw[Yl,iU _ hql];exact d1,d2,d3.aZ hE⟩
    ·rw[ajh (by simp only[ai6,QN];omega),ajU]at tO;have Kw:o.aw[i']?=some el:=by rw[<- tO];congr 1;simp only[ai6,QN];omega
     obtain⟨u,u1,u2,u3⟩:=q5 i' j y (by rw[Kw];exact hj);have gR:(lo+n+ns.length)*o.sz<=i'*o.sz:=ajD _ ae;rw[ajR]at gR;exact⟨u,by rw[hgt _ (by rw[n1];omega)];exact u1,u2,u3.aZ hE⟩⟩)
 have hup:pK σ id (some (b,bs)) id=some (b,bs):=cc _ _ _;refine⟨.slice (some ⟨b,bs+lo*o.sz,none⟩) (n+ns.length) cap,_,w.setRow b cE,?_,this.1,this.2,?_⟩
 ·have mW:=xi.cells;rw[k4]at mW;rw[<- acJ]at ck;simp [Builtin.append_,run_underlying hu,sizeOf,typeInfo,k1,Builtin.lenOf,Fm,mW,k4,Addr.add_lit,ck]
 ·exact .so ⟨g,true,o.sz,o.aw.take (lo+n)++ns++o.aw.drop (lo+n+ns.length)⟩ (by simp [(List.getElem?_eq_some_iff.1 ho).1]) (ajc _) ⟨_,_,rfl⟩
   (λ_=>.inr ⟨b,bs,cap,E,cE,hup,setRow_heap w b arr cE E (0,0) hh,rfl,Fm,by rw[kg];exact hfit⟩)
theorem Kk{e:TypeId}{i:RF}{g:Nat}{xv:V} (hI:Inv σ s w) (ha:aC σ s w (.so id g lo n) ua) (hc:TY cl ch ua) (hx:aC σ s w xv ux) (yH:jj s xv=some ns)
  (hti:jk P t=some (e,i)) (ho:s[id]?=some o) (hg:o.g=g) (KX:o.sz=i.sz) (hz:∀e∈ns,e.length=i.sz) (lQ:0<i.sz) (UM:0<ns.length) (hlo:lo+n<=o.aw.length) (hbp:0<i.Cx) (hb:(n+ns.length)*i.Cx<=140737488355328) (hr:ch<n+ns.length) :
  ∃r σ' w',(Builtin.append_ #[t,t] ty #[ua,ux]).run P w=.ok r w'/\aG σ s w σ' (s++[⟨0,true,i.sz,(o.aw.drop lo).take n++ns⟩]) w' /\
   Inv σ' (s++[⟨0,true,i.sz,(o.aw.drop lo).take n++ns⟩]) w'/\aC σ' (s++[⟨0,true,i.sz,(o.aw.drop lo).take n++ns⟩]) w' (.so s.length 0 0 (n+ns.length)) r:=by
 obtain⟨hu,hi⟩:=lE hti;obtain⟨ti,d,z,k1,k2,k3,k4,k5,k6,k7,k8,k9⟩:=iN hi;have Nd:z.cells.size=i.sz:=by rw[<- akt,k6,k7]
 obtain⟨ax,xK,rfl,Fc,Yp,news,n1,n2,n3,n4⟩:=ks hI hx yH hz;have xi:Src P ti.size t (.slice ax ns.length xK) ns.length news w:=by
  rw[k4];cases ax with
  |none =>
   have:ns=[]:=Fc rfl;subst this;simp at UM
  |some ad=>exact Src.ofSlice w hu ad ns.length xK news n1 (n3 ad rfl) n2
 obtain⟨Uh,Xj⟩:=pP hI;have iG:jj s (.so id g lo n)=some ((o.aw.drop lo).take n):=by simp [jj,ho,hg,hlo]
 have m7:((o.aw.drop lo).take n).length=n:=cG;have hoz:∀e∈o.aw,e.length=i.sz:=by
  intro e jn;rcases hI.content _ o ho with h0|⟨b,base,arr,E,h1,h2,h3,h4,h5⟩
  ·cases ha with|so o' jV FO RI hk=>?_
   rw[ho]at jV;cases jV;rcases hk hg with ⟨nR,_⟩|⟨b,bs,cp,E,arr,ef,hh,_⟩
   ·rw[h0.Ji nR]at jn;cases jn
   ·exact(h0.Cz ef ⟨arr,E,hh⟩).elim
  ·rw[<- KX];exact h3 e jn
 have VW:∀e∈(o.aw.drop lo).take n,e.length=i.sz:=λe he=>hoz e (akk (ajT he));obtain⟨base,cap,Fp,a1,a2,mH,o1,o2,o3,o4⟩:=ks hI ha iG VW;rw[m7]at Fp a2;cases ha with|so o' jV FO RI hk=>?_
 rw[ho]at jV;cases jV;have tz:=hk hg;have tJ:cap<n+ns.length:=by have:=(hc _ _ _ Fp).2;omega
 have hold:(Builtin.firstCells ti.size n (.slice base n cap)).run P w.drew=.ok mH.toArray w.drew:=by
  rw[k4];cases base with
  |none =>
   have he:(o.aw.drop lo).take n=[]:=a1 rfl;rw[he]at o1 m7;have ie:n=0:=by simpa using m7.symm
   have hn:mH=[]:=ajB (by simpa using o1);subst ie hn;exact run_firstCells_none w.drew i.sz 0 0 cap
  |some ad=>exact run_firstCells_some w.drew i.sz n ad n cap mH (by rw[o1,m7]) (by simpa using o3 ad rfl)
 have hle:n+ns.length<=(n+ns.length)*i.Cx:=Nat.le_mul_of_pos_right _ hbp;have eZ:=run_append_grow_src (P:=P) w t t ty e ti z hu k1 k3 base n cap mH hold (.slice ax ns.length xK) ns.length news xi tJ ae (growslice_fits tJ (by rw[k5];exact hb));have iA:=grownCap_ge w (n+ns.length) cap e;subst Fp;generalize grownCap w (n+ns.length) cap e=pD at *;have fY:((mH++news).toArray++Builtin.zeroCells z.cells (pD - (n+ns.length))).size=pD*i.sz:=by simp only[Array.size_append,List.size_toArray,size_zeroCells,ai6,o1,n1,Nd,m7];rw[<- ajR,<- ajR];congr 1;omega
 have ir:∀(i' j:Nat) (y:V),(((o.aw.drop lo).take n++ns)[i']?.bind (·[j]?))=some y->∃c,((mH++news).toArray++Builtin.zeroCells z.cells (pD - (n+ns.length)))[i'*i.sz+j]?=some c/\c.oneCell'=true/\aC σ s w y c:=by intro i' j y hy;obtain⟨c,c1,c2,c3⟩:=u7 o1 o4 n4 i' j y hy;exact⟨c,Ho c1,c2,c3⟩
 generalize (mH++news).toArray++Builtin.zeroCells z.cells (pD - (n+ns.length))=arr at *;have:=sQ (aw:=(o.aw.drop lo).take n++ns) (sz:=i.sz) (arr:=arr) Xj e (λe he=>(List.mem_append.1 he).elim (VW e) (hz e)) (by rw[fY,ai6,m7];exact ajD _ iA)
  (λi' j y hy=>let ⟨c,c1,c2,c3⟩:=ir i' j y hy;⟨c,c1,c2,c3.aZ Uh⟩)
 refine⟨_,_,_,eZ,Uh.trans this.1,this.2,?_⟩;exact .so ⟨0,true,i.sz,(o.aw.drop lo).take n++ns⟩ aj (ajc _) ⟨_,_,rfl⟩ (λ_=>.inr ⟨w.heap.size,0,pD,e,arr,cc _ _ _,heap_alloc_new w.drew _,aj,iA,by simp [fY]⟩)
end Go.VL
