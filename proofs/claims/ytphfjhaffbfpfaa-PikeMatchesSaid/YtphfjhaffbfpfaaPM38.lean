/- A part of the proof (G31 G42 G43 G44 G45 G46 G47 G48). -/
import Derived.Test.YtphfjhaffbfpfaaPM12
import Derived.Test.YtphfjhaffbfpfaaPM17
set_option linter.all false
set_option maxRecDepth 100000
set_option maxHeartbeats 80000000
namespace Go.Proofs.Ytphfjhaffbfpfaa
open Go.VL Go.Proofs.Try
variable{m:aA}{p:aw}{rec:Rec}{x:Rs}
structure aA.Fr (m m':aA):Prop where
 p:m'.p=m.p
 t:m'.t=m.t
 bC:m'.bC=m.bC
 own:m'.own=m.own
 eV:m'.eV=m.eV
 start:m'.start=m.start
 fuel:m'.fuel=m.fuel
 ready:m'.ready=m.ready
theorem aA.Fr.refl (m:aA):m.Fr m:=⟨rfl,rfl,rfl,rfl,rfl,rfl,rfl,rfl⟩
theorem aA.Fr.trans {m1 m2:aA} (h:m.Fr m1) (k:m1.Fr m2):m.Fr m2 :=
 ⟨k.p.trans h.p,k.t.trans h.t,k.bC.trans h.bC,k.own.trans h.own,k.eV.trans h.eV,k.start.trans h.start,k.fuel.trans h.fuel,k.ready.trans h.ready⟩
theorem aA.dP (m:aA):m.Fr m.step:=by unfold aA.step;split <;> exact⟨rfl,rfl,rfl,rfl,rfl,rfl,rfl,rfl⟩
theorem aA.yI (m:aA) (p:aw):m.Fr (m.push p):=⟨rfl,rfl,rfl,rfl,rfl,rfl,rfl,rfl⟩
theorem aA.vV (m:aA) (n:Nat):m.Fr (m.clear n):=⟨rfl,rfl,rfl,rfl,rfl,rfl,rfl,rfl⟩
theorem aA.Ix (m:aA):m.Fr m.pop:=⟨rfl,rfl,rfl,rfl,rfl,rfl,rfl,rfl⟩
theorem oz (h:∀m base p x,rec m base p=some x->m.Fr x.1) (hx:e8 rec m p=some x):m.Fr x.1:=by
 unfold e8 at hx;split at hx
 ·cases hx
 ·rename_i m1 p1 f h1;split at hx
  ·cases hx
  ·cases hx;exact(h _ _ _ _ h1).trans (aA.vV _ _)
theorem GY (h:∀m base p x,rec m base p=some x->m.Fr x.1){part:aF} (hx:jV rec m p part=some x):m.Fr x.1:=by
 unfold jV at hx;split at hx
 ·cases hx
 ·rename_i m1 p1 f h1;cases hx;have:=oz h h1;exact this
theorem KT {f:Int->aA->Option Rs} (h:∀k m x,f k m=some x->m.Fr x.1) {neg:Bool}{p:aw}{last:Int}:∀(j:Nat) (m:aA) (x:Rs),gJ f neg p last j m=some x->m.Fr x.1
 |0,m,x,hx=>by simp only[gJ]at hx;cases hx;exact .refl _
 |j+1,m,x,hx=>by
  simp only[gJ]at hx;split at hx
  ·cases hx;exact .refl _
  ·split at hx
   ·cases hx
   ·rename_i m1 r found h1;split at hx
    ·split at hx
     ·cases hx;have:=h _ _ _ h1;exact this
     ·cases hx;have:=h _ _ _ h1;exact this
    ·exact(h _ _ _ h1).trans (KT h j m1 x hx)
theorem Om (h:∀m base p x,rec m base p=some x->m.Fr x.1){r:aD} (hx:bq rec m r p=some x):m.Fr x.1:=by
 have hs:=aA.dP m;unfold bq at hx;split at hx
 ·cases hx
 rename_i re PM;simp only at hx;by_cases c0:1000000000<re.set.length\/1000000000<re.kids.length
 ·rw[ap c0]at hx;cases hx
 rw[am c0]at hx;by_cases c4:re.op=4
 ·rw[ap c4]at hx;split at hx
  ·exact GY h hx
  ·cases hx;exact .refl _
 rw[am c4]at hx;by_cases cf:m.fuel<=m.steps
 ·rw[ap cf]at hx;cases hx;exact hs
 rw[am cf]at hx;by_cases c1:re.op=1
 ·rw[ap c1]at hx;cases hx;exact hs
 rw[am c1]at hx;by_cases c2:re.op=2
 ·rw[ap c2]at hx;cases hx;exact hs
 rw[am c2]at hx;by_cases c3:re.op=3
 ·rw[ap c3]at hx;cases hx;exact hs
 rw[am c3]at hx;by_cases c5:re.op=5
 ·rw[ap c5]at hx;split at hx
  ·cases hx
  ·cases hx;exact hs
 rw[am c5]at hx;by_cases c6:re.op=6
 ·rw[ap c6]at hx;split at hx
  ·cases hx
  ·cases hx;exact hs
 rw[am c6]at hx;by_cases c7:re.op=7\/re.op=8
 ·rw[ap c7]at hx;split at hx
  ·cases hx
  ·unfold lj at hx;exact hs.trans (KT (λ_ _ _ h1=>oz h h1) _ _ _ hx)
 rw[am c7]at hx;by_cases c9:re.op=9
 ·rw[ap c9]at hx;split at hx
  ·cases hx
  ·exact hs.trans (GY h hx)
 rw[am c9]at hx;by_cases ZG:re.op=10
 ·rw[ap ZG]at hx;split at hx
  ·split at hx
   ·cases hx
   ·cases hx;exact hs
  ·cases hx
 rw[am ZG]at hx;split at hx
 ·split at hx
  ·cases hx
  ·cases hx;exact hs
 ·cases hx;exact hs
theorem PO{r:aD}{n:Int} (hx:ka m r n p=some x):m.Fr x.1:=by
 have hs:=aA.dP m;unfold ka at hx;simp only at hx
 repeat' (first
  |(cases hx;done)
  |(cases hx;exact hs)
  |(cases hx;exact hs.trans (aA.yI _ _))
  |split at hx)
theorem T8 (h:∀m base p x,rec m base p=some x->m.Fr x.1) (hx:gX rec m p=some x):m.Fr x.1:=by
 unfold gX at hx;split at hx
 ·cases hx
 split at hx
 ·cases hx
 simp only at hx
 repeat' (first
  |(cases hx;done)
  |(cases hx;exact .refl _)
  |exact Om h hx
  |exact PO hx
  |(cases hx;split;exact aA.yI _ _;exact .refl _)
  |split at hx)
theorem nN:∀(k:Nat) (out:Bool) (m:aA) (base:Nat) (p:aw) (alive:Bool) (x:Rs),bn k out m base p alive=some x->m.Fr x.1
 |0,_,_,_,_,_,_,hx=>by cases hx
 |k+1,out,m,base,p,alive,x,hx=>by
  simp only[bn]at hx;split at hx
  ·cases hx;exact .refl _
  split at hx
  ·split at hx
   ·cases hx
   ·rename_i m1 p1 a1 h1;exact(T8 (λm base p x h=>nN k true m base p true x h) h1).trans (nN k false m1 base p1 a1 x hx)
  split at hx
  ·cases hx;exact .refl _
  split at hx
  ·cases hx;exact .refl _
  split at hx
  ·cases hx
  split at hx
  ·cases hx
  ·cases hx
  ·rename_i last _;exact m.Ix.trans (nN k true m.pop base last true x hx)
section mono
variable {rec rec':Rec} (h:∀m base p x,rec m base p=some x->rec' m base p=some x)
variable{p:aw}{m:aA}{x:Rs}
include h
theorem nB (hx:e8 rec m p=some x):e8 rec' m p=some x:=by
 unfold e8 at hx ⊢;cases hr:rec m m.top p with
 |none=>rw[hr]at hx;cases hx
 |some y=>rw[hr]at hx;rw[h _ _ _ _ hr];exact hx
theorem xv{part:aF} (hx:jV rec m p part=some x):jV rec' m p part=some x:=by
 unfold jV at hx ⊢;cases hr:e8 rec m { p with todo:=part } with
 |none=>rw[hr]at hx;cases hx
 |some y=>rw[hr]at hx;rw[nB h hr];exact hx
omit h in
theorem tJ {f f':Int->aA->Option Rs} (hf:∀k m x,f k m=some x->f' k m=some x) {neg:Bool}{p:aw}{last:Int}:∀(j:Nat) (m:aA) (x:Rs),gJ f neg p last j m=some x->gJ f' neg p last j m=some x
 |0,_,_,hx=>hx
 |j+1,m,x,hx=>by
  simp only[gJ]at hx ⊢;by_cases hs:m.bU=true
  ·rw[ap hs]at hx ⊢;exact hx
  ·rw[am hs]at hx ⊢;cases hr:f (last+j) m with
   |none=>rw[hr]at hx;cases hx
   |some y =>
    rw[hr]at hx;rw[hf _ _ _ hr];obtain⟨m1,r,found⟩:=y;simp only at hx ⊢;cases found with
    |true=>exact hx
    |false =>
     simp only[adq,if_false]at hx ⊢;exact tJ hf j m1 x hx
theorem Fh{r:aD} (hx:bq rec m r p=some x):bq rec' m r p=some x:=by
 unfold bq at hx ⊢;cases hl:m.lit r with
 |none=>rw[hl]at hx;cases hx
 |some re =>
  rw[hl]at hx;simp only at hx ⊢;by_cases c0:1000000000<re.set.length\/1000000000<re.kids.length
  ·rw[ap c0]at hx;cases hx
  rw[am c0]at hx ⊢;by_cases c4:re.op=4
  ·rw[ap c4]at hx ⊢;by_cases cm:re.mode=2
   ·rw[ap cm]at hx ⊢;exact xv h hx
   ·rw[am cm]at hx ⊢;exact hx
  rw[am c4]at hx ⊢;by_cases cf:m.fuel<=m.steps
  ·rw[ap cf]at hx ⊢;exact hx
  rw[am cf]at hx ⊢;by_cases c1:re.op=1
  ·rw[ap c1]at hx ⊢;exact hx
  rw[am c1]at hx ⊢;by_cases c2:re.op=2
  ·rw[ap c2]at hx ⊢;exact hx
  rw[am c2]at hx ⊢;by_cases c3:re.op=3
  ·rw[ap c3]at hx ⊢;exact hx
  rw[am c3]at hx ⊢;by_cases c5:re.op=5
  ·rw[ap c5]at hx ⊢;exact hx
  rw[am c5]at hx ⊢;by_cases c6:re.op=6
  ·rw[ap c6]at hx ⊢;exact hx
  rw[am c6]at hx ⊢;by_cases c7:re.op=7\/re.op=8
  ·rw[ap c7]at hx ⊢;cases hk:re.kids with
   |nil=>rw[hk]at hx;cases hx
   |cons aL l =>
    rw[hk]at hx;simp only at hx ⊢;unfold lj at hx ⊢;exact tJ (λk m x hx=>nB h hx) _ _ _ hx
  rw[am c7]at hx ⊢;by_cases c9:re.op=9
  ·rw[ap c9]at hx ⊢;cases hk:re.kids with
   |nil=>rw[hk]at hx;cases hx
   |cons aL l =>
    rw[hk]at hx;exact xv h hx
  rw[am c9]at hx ⊢;exact hx
theorem Cn (hx:gX rec m p=some x):gX rec' m p=some x:=by
 unfold gX at hx ⊢;by_cases c:m.bW p
 ·rw[am (by simpa using c)]at hx ⊢;obtain⟨pa,pc,todo⟩:=p;cases todo with
  |nil=>cases hx
  |mk kind r n at_ next =>
   simp only at hx ⊢;by_cases k0:kind=0
   ·rw[ap k0]at hx ⊢;exact Fh h hx
   ·rw[am k0]at hx ⊢;exact hx
 ·rw[ap (by simpa using c)]at hx;cases hx
end mono
variable{p:aw}{base:Nat}{x:Rs}{m:aA}{S:List aw}{q:aw}{S':List aw}{R:List (Int×aC)}{a:Bool}{s':Int}{s:Int}{P:Re}{t:List Int}{F:Int}
theorem pC:∀(k:Nat) (out:Bool) (m:aA) (base:Nat) (p:aw) (alive:Bool) (x:Rs),bn k out m base p alive=some x->bn (k+1) out m base p alive=some x
 |0,_,_,_,_,_,_,hx=>by cases hx
 |k+1,out,m,base,p,alive,x,hx=>by
  rw[bn.eq_2]at hx ⊢;by_cases c1:out=true/\m.bU=true
  ·rw[ap c1]at hx ⊢;exact hx
  rw[am c1]at hx ⊢;by_cases c2:alive=true/\p.goals=true
  ·rw[ap c2]at hx ⊢;cases hr:gX (λm base p=>bn k true m base p true) m p with
   |none=>rw[hr]at hx;cases hx
   |some y =>
    rw[hr]at hx;rw[Cn (rec':=λm base p=>bn (k+1) true m base p true) (λm base p x hx=>pC k true m base p true x hx) hr];obtain⟨m1,p1,a1⟩:=y;exact pC k false m1 base p1 a1 x hx
  rw[am c2]at hx ⊢;by_cases c3:alive=true
  ·rw[ap c3]at hx ⊢;exact hx
  rw[am c3]at hx ⊢;by_cases c4:m.top=base
  ·rw[ap c4]at hx ⊢;exact hx
  rw[am c4]at hx ⊢;by_cases c5:m.top=0\/m.gj.length<m.top\/1200000000000<m.top
  ·rw[ap c5]at hx;cases hx
  rw[am c5]at hx ⊢;cases hl:m.gj[m.top-1]? with
  |none=>rw[hl]at hx;cases hx
  |some o =>
   rw[hl]at hx;cases o with
   |none=>cases hx
   |some last=>exact pC k true m.pop base last true x hx
theorem pS {k k':Nat} (hk:k<=k') {out:Bool}{alive:Bool} (hx:bn k out m base p alive=some x):bn k' out m base p alive=some x:=by
 induction hk with
 |refl=>exact hx
 |step _ ih=>exact pC _ _ _ _ _ _ _ ih
def Ev (m:aA) (base:Nat) (p:aw) (alive:Bool) (x:Rs):Prop:=∃k,bn k false m base p alive=some x
def Qw (m:aA) (p:aw) (x:Rs):Prop:=∃k,gX (λm base p=>bn k true m base p true) m p=some x
theorem T9{y:Rs} (hg:p.goals=true) (ha:Qw m p y) (he:Ev y.1 base y.2.1 y.2.2 x):Ev m base p true x:=by obtain⟨k1,h1⟩:=ha;obtain⟨k2,h2⟩:=he;refine⟨max k1 k2+1,?_⟩;simp only[bn];rw[am (λh=>by cases h.1),ap ⟨trivial,hg⟩,Cn (rec':=λm base p=>bn (max k1 k2) true m base p true) (λm base p x hx=>pS (Nat.le_max_left _ _) hx) h1];exact pS (Nat.le_max_right _ _) h2
theorem FK (hg:p.goals=false):Ev m base p true (m,p,!m.bU):=by refine⟨1,?_⟩;simp only[bn];rw[am (λh=>by cases h.1),am (λh=>by rw[hg]at h;cases h.2),ap trivial]
theorem yw (hb:m.top=base):Ev m base p false (m,.zero,false):=by refine⟨1,?_⟩;simp only[bn];rw[am (λh=>by cases h.1),am (λh=>by cases h.1),am (λh=>by cases h),ap hb]
def wB (m:aA) (S:List aw):Prop:=m.gj.take m.top=S.map some/\m.top=S.length/\m.top<=1200000000000
theorem wB.len (h:wB m S):m.top<=m.gj.length:=by have:=congrArg List.length h.1;rw[ad5,ado,<- h.2.1]at this;omega
theorem wB.last (h:wB m (S++[q])):m.gj[m.top-1]?=some (some q)/\wB m.pop S:=by
 have hl:=h.len;have ht:m.top=S.length+1:=by rw[h.2.1];simp
 have hg:(m.gj.take m.top)[m.top-1]?=some (some q):=by rw[h.1,ht];simp
 refine⟨by rw[ad1]at hg;rwa [ap (by omega)]at hg,?_,?_,?_⟩
 ·show (m.gj.set (m.top-1) none).take (m.top-1)=S.map some;rw[List.take_set_of_le (adB _)];have:m.gj.take (m.top-1)=(m.gj.take m.top).take (m.top-1):=by rw[List.take_take];congr 1;omega
  rw[this,h.1,ht];simp
 ·show m.top-1=S.length;omega
 ·show m.top-1<=1200000000000;have:=h.2.2;omega
theorem wB.push (h:wB m S) (q:aw) (hl:S.length+1<=1200000000000):wB (m.push q) (S++[q]):=by
 refine⟨?_,?_,?_⟩
 ·show (m.gj.take m.top++[some q]).take (m.top+1)=_;rw[h.1,adT (by rw[adx,ado,h.2.1];simp)];simp
 ·show m.top+1=_;rw[h.2.1];simp
 ·show m.top+1<=_;rw[h.2.1];exact hl
theorem wB.clear (h:wB m (S++S')):wB (m.clear S.length) S:=by
 have hl:=h.len;have ht:=h.2.1;rw[adx]at ht;refine⟨?_,rfl,?_⟩
 ·show (m.gj.take S.length++(List.replicate (m.top-S.length) none++m.gj.drop m.top)).take S.length=_;rw[List.take_append_of_le_length (by rw[ad5];omega),List.take_take,Nat.min_self];have:m.gj.take S.length=(m.gj.take m.top).take S.length:=by rw[List.take_take];congr 1;omega
  rw[this,h.1];simp
 ·show S.length<=_;have:=h.2.2;omega
theorem UH (hS:wB m (S++[q])) (hb:base<=S.length) (hs:m.bU=false) (he:Ev m.pop base q true x):Ev m base p false x:=by
 obtain⟨k,hk⟩:=he;have hl:=hS.len;have ht:m.top=S.length+1:=by rw[hS.2.1];simp
 refine⟨k+1,?_⟩;simp only[bn];rw[am (λh=>by cases h.1),am (λh=>by cases h.1),am (λh=>by cases h),am (by omega),am (by have:=hS.2.2;omega),hS.last.1];simp only;have:bn k true m.pop base q true=bn k false m.pop base q true:=by
  cases k with
  |zero=>rfl
  |succ k =>
   rw[bn.eq_2,bn.eq_2];rw[am (show ¬(true=true/\m.pop.bU=true) from λh=>by have h2:=h.2;rw[show m.pop.bU=false from hs]at h2;cases h2),am (show ¬(false=true/\m.pop.bU=true) from λh=>by cases h.1)]
 rw[this];exact hk
inductive qA (base:Nat):aA->aw->Bool->List (Int×aC)->aA->aw->Bool->Prop where
 |refl (m:aA) (p:aw) (al:Bool):qA base m p al [] m p al
 |xX {m:aA}{p:aw}{m1:aA}{p1:aw}{Ws:Bool}{R:List (Int×aC)}{m':aA}{p':aw}{QJ:Bool} (hg:p.goals=true) (ha:Qw m p (m1,p1,Ws)) (h:qA base m1 p1 Ws R m' p' QJ):qA base m p true R m' p' QJ
 |pop {m:aA}{p q:aw}{S:List aw}{R:List (Int×aC)}{m':aA}{p':aw}{QJ:Bool} (hS:wB m (S++[q])) (hb:base<=S.length) (hs:m.bU=false) (h:qA base m.pop q true R m' p' QJ):qA base m p false R m' p' QJ
 |emit {m:aA}{i:Int}{c:aC}{R:List (Int×aC)}{m':aA}{p':aw}{QJ:Bool} (hs:m.bU=false) (h:qA base m .zero false R m' p' QJ):qA base m ⟨i,c,.nil⟩ true ((i,c)::R) m' p' QJ
theorem qA.trans{m1 m2:aA}{p1 p2:aw}{a1 a2:Bool}{R':List (Int×aC)} (h:qA base m p a R m1 p1 a1) (k:qA base m1 p1 a1 R' m2 p2 a2):qA base m p a (R++R') m2 p2 a2:=by
 induction h with
 |refl=>exact k
 |xX hg ha _ ih=>exact .xX hg ha (ih k)
 |pop hS hb hs _ ih=>exact .pop hS hb hs (ih k)
 |emit hs _ ih=>exact .emit hs (ih k)
theorem sV{m':aA}{p':aw}{a':Bool} (h:qA base m p a R m' p' a') (hR:R=[]) (he:Ev m' base p' a' x):Ev m base p a x:=by
 induction h with
 |refl=>exact he
 |xX hg ha _ ih=>exact T9 hg ha (ih hR he)
 |pop hS hb hs _ ih=>exact UH hS hb hs (ih hR he)
 |emit=>cases hR
def xS (P:Re):aD->Option Re
 |.nil=>none
 |.root=>some P
 |.el re=>some re
def RT (re zv:Re):Prop:=(zv=re/\re.mode≠2)\/(re.mode=2/\zv=re.db 0)
inductive GR (P:Re):aF->Goal->Prop where
 |nil:GR P .nil .nil
 |tree {r:aD}{re:Re}{n a k f:Int}{g:aF}{h:Goal} (hr:xS P r=some re) (hg:GR P g h):GR P (.mk 0 r n a g) (.mk 0 re k f h)
 |round {r:aD}{re zv:Re}{n a f:Int}{g:aF}{h:Goal} (hr:xS P r=some re) (ht:RT re zv) (hg:GR P g h):GR P (.mk 2 r n a g) (.mk 1 zv n f h)
 |more {r:aD}{re zv:Re}{n a f:Int}{g:aF}{h:Goal} (hr:xS P r=some re) (ht:RT re zv) (hn:n<zv.mn) (hg:GR P g h):GR P (.mk 2 r (n+1) a g) (.mk 2 zv n f h)
 |Su {r:aD}{re zv:Re}{n a:Int}{g:aF}{h:Goal} (hr:xS P r=some re) (ht:RT re zv) (hn:zv.mn<=n) (hg:GR P g h):GR P (.mk 3 r (n+1) a g) (.mk 2 zv n a h)
 |cap {r:aD}{re:Re}{a k:Int}{g:aF}{h:Goal} (hr:xS P r=some re) (hg:GR P g h):GR P (.mk 4 r 0 a g) (.mk 3 re k a h)
 |N5 {r:aD}{re:Re}{a k:Int}{g:aF}{h:Goal} (hg:GR P g h):GR P (.mk 5 r 0 a g) (.mk 4 re k a h)
def vB (nc:Int) (re:Re):Bool:=decide ((re.op=3\/re.op=4\/re.op=5\/re.op=7\/re.op=8\/re.op=9->re.kids≠[])/\(re.op=10->2<=re.kids.length)/\re.set.length<=1000000000/\re.kids.length<=1000000000 /\
 (re.op=5\/re.op=6\/re.op=10->1<=re.n/\re.n<=nc)/\(re.op=11->0<=re.n/\re.n<=5)/\(re.op=4->-1<=re.mx))
def GK (nc i s:Int):Goal->Prop
 |.nil=>True
 |.mk kind re k cq next=>(kind≠4->re.every (vB nc)=true)/\(kind=1\/kind=2->re.op=4/\re.mode≠2/\0<=k)/\(kind=1->k<=s)/\(kind=2->k<s)/\(kind=3->re.op=5/\0<=cq/\cq<=i)/\GK nc i s next
theorem GK.mono {nc i i':Int} (hi:i<=i') (hs:s<=s'):∀{g:Goal},GK nc i s g->GK nc i' s' g
 |.nil,_=>trivial
 |.mk _ _ _ _ _,h=>by obtain⟨h1,h2,h3,h4,h5,h6⟩:=h;exact⟨h1,h2,λk=>by have:=h3 k;omega,λk=>by have:=h4 k;omega,λk=>by have:=h5 k;exact⟨this.1,by omega⟩,h6.mono hi hs⟩
structure MS (P:Re) (t:List Int) (F:Int) (m:aA) (S:List aw) (s:Int):Prop where
 p:m.p.re=P
 t:m.t=t
 fuel:m.fuel=F
 same:m.same
 gj:wB m S
 steps:m.steps=s
 bU:m.bU=false
 room:(S.length:Int)<=s
structure Po (m m':aA):Prop where
 fr:m.Fr m'
 steps:m.steps<=m'.steps
 RU:m.cN<=m'.cN
 SB:m'.cN<=max m.cN m'.steps
 ck:m.steps<=m.fuel->m'.steps<=m'.fuel
theorem Po.refl (m:aA):Po m m:=⟨.refl m,ady _,ady _,by omega,λh=>h⟩
theorem Po.trans {m1 m2:aA} (h:Po m m1) (k:Po m1 m2):Po m m2:=by obtain⟨a1,a2,a3,a4,a5⟩:=h;obtain⟨b1,b2,b3,b4,b5⟩:=k;exact⟨a1.trans b1,by omega,by omega,by omega,λhh=>b5 (a5 hh)⟩
theorem MS.fr{m':aA} (h:MS P t F m S s) (hf:m.Fr m') (hS:wB m' S') (hs:m'.steps=s') (hp:m'.bU=false) (hr:(S'.length:Int)<=s'):MS P t F m' S' s' :=
 ⟨by rw[hf.p];exact h.p,by rw[hf.t];exact h.t,by rw[hf.fuel];exact h.fuel,λho=>by rw[hf.own,hf.t];exact h.same (by rw[<- hf.bC];exact ho),hS,hs,hp,hr⟩
theorem MS.pop (h:MS P t F m (S++[q]) s):MS P t F m.pop S s :=
 h.fr m.Ix h.gj.last.2 h.steps h.bU (by have:=h.room;rw[adx]at this;simp at this;omega)
theorem IN (m:aA):Po m m.pop:=⟨m.Ix,ady _,ady _,by show m.cN<=max m.cN m.steps;omega,λh=>h⟩
theorem MS.bW (h:MS P t F m S s) (ht:t.length<=1000000) (hF:F<=1200000000000) (h0:0<=s) (h1:s<=F) (hi0:0<=p.at_) (fD:p.at_<=t.length) (hc:p.ah.length<=1000000000):m.bW p:=by refine⟨⟨by rw[h.steps];exact h0,by rw[h.steps];omega,h.gj.len,h.gj.2.2⟩,⟨hi0,by rw[h.t];exact fD,hc⟩,by rw[h.t];exact ht,h.same⟩
def ic (P:Re) (t:List Int) (F:Int) (nc:Nat) (base:Nat) (S:List aw) (ai i:Int) (m:aA) (p:aw) (al:Bool) (st:bd) (b:Bool) (st':bd):Prop :=
 ∃(R:List (Int×aC)) (m':aA),st'.ends=st.ends++R.map Prod.fst/\st'.ah=st.ah++R.map Prod.snd/\(∀r∈R,i<=r.1/\r.1<=t.length/\dj t r.2/\r.2.length=nc)/\Po m m'/\st.steps<=st'.steps /\
  ((b=false/\st'.empty=false/\(0<=ai->(st'.ends.length:Int)<ai)/\MS P t F m' S st'.steps/\st'.steps<=F/\∃p',qA base m p al R m' p' false) \/
   (b=true/\st'.empty=false/\0<=ai/\(st'.ends.length:Int)=ai/\st'.steps<=F/\∃(S':List aw) (R0:List (Int×aC)) (e:Int) (d:aC),MS P t F m' (S++S') st'.steps/\R=R0++[(e,d)]/\qA base m p al R0 m' ⟨e,d,.nil⟩ true) \/
   (b=true/\st'.empty=true/\(0<=ai->(st'.ends.length:Int)<ai)/\m'.bU=true/\∃(p':aw) (S':List aw),wB m' (S++S')/\qA base m p al R m' p' false))
section con
variable {P:Re}{t:List Int}{F:Int}{nc base:Nat}{S:List aw}{ai i:Int}{m:aA}{p:aw}{st st':bd}{b:Bool}
theorem ic.xX {m1:aA}{p1:aw}{Ws:Bool} (hg:p.goals=true) (ha:Qw m p (m1,p1,Ws)) (hp:Po m m1) (h:ic P t F nc base S ai i m1 p1 Ws st b st'):ic P t F nc base S ai i m p true st b st':=by
 obtain⟨R,m',h1,h2,h3,h4,h5,h6⟩:=h;refine⟨R,m',h1,h2,h3,hp.trans h4,h5,?_⟩;rcases h6 with ⟨k1,k2,k3,k4,kF,p',k5⟩|⟨k1,k2,k3,k4,kF,S',R0,e,d,k5,k6,k7⟩|⟨k1,k2,k3,k4,p',S',k5,k6⟩
 ·exact .inl ⟨k1,k2,k3,k4,kF,p',.xX hg ha k5⟩
 ·exact .inr (.inl ⟨k1,k2,k3,k4,kF,S',R0,e,d,k5,k6,.xX hg ha k7⟩)
 ·exact .inr (.inr ⟨k1,k2,k3,k4,p',S',k5,.xX hg ha k6⟩)
theorem ic.oX {al:Bool}{i':Int}{s0:bd} (h:ic P t F nc base S ai i' m p al s0 b st') (hi:i<=i') (h1:s0.ends=st.ends) (h2:s0.ah=st.ah) (h3:st.steps<=s0.steps):ic P t F nc base S ai i m p al st b st':=by obtain⟨R,m',k1,k2,k3,k4,k5,k6⟩:=h;exact⟨R,m',by rw[k1,h1],by rw[k2,h2],λr hr=>by have:=k3 r hr;exact⟨by omega,this.2⟩,k4,by omega,k6⟩
theorem ic.no (hM:MS P t F m S st.steps) (he:st.empty=false) (hm:0<=ai->(st.ends.length:Int)<ai) (hF:st.steps<=F):ic P t F nc base S ai i m p false st false st :=
 ⟨[],m,by simp,by simp,by simp,.refl m,ady _,.inl ⟨rfl,he,hm,hM,hF,p,.refl m p false⟩⟩
theorem ic.out {s1:bd} (hS:wB m S) (hs:m.bU=true) (he:s1.empty=true) (hm:0<=ai->(st.ends.length:Int)<ai) (h1:s1.ends=st.ends) (h2:s1.ah=st.ah) (h3:st.steps<=s1.steps):ic P t F nc base S ai i m p false st true s1 :=
 ⟨[],m,by simp [h1],by simp [h2],by simp,.refl m,h3,.inr (.inr ⟨rfl,he,by rw[h1];exact hm,hs,p,[],by simpa using hS,.refl m p false⟩)⟩
theorem ic.or {q:aw}{al b1:Bool}{s2:bd} (hb:base<=S.length) (h:ic P t F nc base (S++[q]) ai i m p al st b1 s2) (ht:b1=true->b=true/\st'=s2)
  (hf:b1=false->∀m2,m.Fr m2->MS P t F m2 (S++[q]) s2.steps->s2.empty=false->s2.steps<=F->(0<=ai->(s2.ends.length:Int)<ai)->st.steps<=s2.steps->ic P t F nc base S ai i m2.pop q true s2 b st'):ic P t F nc base S ai i m p al st b st':=by
 obtain⟨R,m',h1,h2,h3,h4,h5,h6⟩:=h;rcases h6 with ⟨k1,k2,k3,k4,kF,p',k5⟩|⟨k1,k2,k3,k4,kF,S',R0,e,d,k5,k6,k7⟩|⟨k1,k2,k3,k4,p',S',k5,k6⟩
 ·obtain⟨R',m2,j1,j2,j3,j4,j5,j6⟩:=hf k1 m' h4.fr k4 k2 kF k3 h5;have dJ:∀{R'' ZN U9 Wd},qA base m'.pop q true R'' ZN U9 Wd->qA base m p al (R++R'') ZN U9 Wd:=λhr=>k5.trans (.pop k4.gj hb k4.bU hr);refine⟨R++R',m2,by rw[j1,h1];simp,by rw[j2,h2];simp,λr hr=>?_,h4.trans ((IN m').trans j4),by omega,?_⟩
  ·rcases List.mem_append.1 hr with hr|hr
   ·exact h3 r hr
   ·exact j3 r hr
  ·rcases j6 with ⟨l1,l2,l3,l4,lF,U9,l5⟩|⟨l1,l2,l3,l4,lF,S',R0,e,d,l5,l6,l7⟩|⟨l1,l2,l3,l4,U9,S',l5,l6⟩
   ·exact .inl ⟨l1,l2,l3,l4,lF,U9,dJ l5⟩
   ·exact .inr (.inl ⟨l1,l2,l3,l4,lF,S',R++R0,e,d,l5,by rw[l6,adX],dJ l7⟩)
   ·exact .inr (.inr ⟨l1,l2,l3,l4,U9,S',l5,dJ l6⟩)
 ·obtain⟨rfl,rfl⟩:=ht k1;exact⟨R,m',h1,h2,h3,h4,h5,.inr (.inl ⟨rfl,k2,k3,k4,kF,q::S',R0,e,d,by simpa using k5,k6,k7⟩)⟩
 ·obtain⟨rfl,rfl⟩:=ht k1;exact⟨R,m',h1,h2,h3,h4,h5,.inr (.inr ⟨rfl,k2,k3,k4,p',q::S',by simpa using k5,k6⟩)⟩
end con
variable{P:Re}{t:List Int}{S:List aw}{F:Int}{m:aA}{s:Int}
def TR (P:Re):Task->aw->Prop
 |.run h i c,p=>p.at_=i/\p.ah=c/\GR P p.todo h
 |.node (.mk _ re _ _ h) i c,p=>p.at_=i/\p.ah=c/\∃r n a g,p.todo=.mk 0 r n a g/\xS P r=some re/\GR P g h
 |.node .nil _ _,_=>False
 |.rep (.mk _ re k _ h) i c,p=>p.at_=i/\p.ah=c/\((re.mode=2/\∃r n a g,p.todo=.mk 0 r n a g/\xS P r=some re/\GR P g h)\/(re.mode≠2/\∃r P5 a g,p.todo=.mk 2 r k a g/\xS P r=some P5/\RT P5 re/\GR P g h))
 |.rep .nil _ _,_=>False
def TK (nc s:Int):Task->Prop
 |.run h i _=>GK nc i s h
 |.node (.mk _ re _ _ h) i _=>re.every (vB nc)=true/\GK nc i s h
 |.node .nil _ _=>False
 |.rep (.mk _ re k _ h) i _=>re.every (vB nc)=true/\re.op=4/\0<=k/\k<=s/\GK nc i s h
 |.rep .nil _ _=>False
structure SP (F ai:Int) (st:bd):Prop where
 empty:st.empty=false
 s0:0<=st.steps
 s1:st.steps<=F
 ai:0<=ai->(st.ends.length:Int)<ai
def T1 (P:Re) (t:List Int) (F:Int) (nc n:Nat):Prop:=∀ai task st b st',dO t F n ai task st=some (b,st')->∀base S m p,MS P t F m S st.steps->SP F ai st->base<=S.length->TR P task p->TK nc st.steps task ->
 0<=task.pos->task.pos<=t.length->dj t task.ah->task.ah.length=nc->ic P t F nc base S ai task.pos m p true st b st'
theorem wx (hM:MS P t F m S s) {r:aD}{re:Re} (hr:xS P r=some re):m.lit r=some re:=by
 cases r with
 |nil=>cases hr
 |root=>cases hr;show some m.p.re=_;rw[hM.p]
 |el re=>exact hr
theorem Ot{base:Nat}{p:aw}{al:Bool}{x:Rs} (hs:m.bU=false) (h:Ev m base p al x):∃k,bn k true m base p al=some x:=by
 obtain⟨k,hk⟩:=h;refine⟨k,?_⟩;cases k with
 |zero=>cases hk
 |succ k =>
  rw[bn.eq_2]at hk ⊢;rw[am (show ¬(false=true/\m.bU=true) from λh=>by cases h.1)]at hk;rw[am (show ¬(true=true/\m.bU=true) from λh=>by have h2:=h.2;rw[hs]at h2;cases h2)];exact hk
theorem Ks (hM:MS P t F m S s) (h:s<F):MS P t F m.step S (s+1)/\Po m m.step/\m.step.cN=m.cN:=by
 have hs:m.step={ m with steps:=m.steps+1 }:=by rw[aA.step,ap (by rw[hM.steps,hM.fuel];exact h)]
 have h1:=hM.steps;rw[hs];refine⟨⟨hM.p,hM.t,hM.fuel,hM.same,hM.gj,by show m.steps+1=_;rw[h1],hM.bU,by have:=hM.room;omega⟩,⟨⟨rfl,rfl,rfl,rfl,rfl,rfl,rfl,rfl⟩,by show m.steps<=m.steps+1;omega,ady _,by show m.cN<=max m.cN _;omega,λ_=>by show m.steps+1<=m.fuel;rw[hM.steps,hM.fuel];omega⟩,rfl⟩
theorem EJ (hM:MS P t F m S s) (h:F<=s):wB m.step S/\m.step.bU=true/\Po m m.step:=by
 have hs:m.step={ m with bU:=true }:=by rw[aA.step,am (by rw[hM.steps,hM.fuel];omega)]
 rw[hs];exact⟨hM.gj,rfl,⟨rfl,rfl,rfl,rfl,rfl,rfl,rfl,rfl⟩,ady _,ady _,by show m.cN<=max m.cN _;omega,λh=>h⟩
theorem De (hM:MS P t F m S s) (q:aw) (h:(S.length:Int)+1<=s) (hF:F<=1200000000000) (hs:s<=F):MS P t F (m.push q) (S++[q]) s/\Po m (m.push q):=by
 have hk:=hM.gj.push q (by omega);have h1:=hM.steps;have ht:=hM.gj.2.1;refine⟨hM.fr (m.yI q) hk h1 hM.bU (by rw[adx];simpa using h),m.yI q,ady _,?_,?_,λh=>h⟩
 ·show m.cN<=max m.cN _;omega
 ·show max m.cN ((m.top+1:Nat):Int)<=max m.cN m.steps;omega
theorem LK{nc:Nat}{i:Int}{q:aw}{b:Bool}{x:bd} (hM:MS P t F m S s) (h:ic P t F nc S.length S 1 i m q true ⟨s,false,[],[]⟩ b x) :
  ∃m1 r found,(∃k,e8 (λm base p=>bn k true m base p true) m q=some (m1,r,found))/\Po m m1/\wB m1 S/\s<=x.steps /\
   ((x.empty=false/\MS P t F m1 S x.steps/\x.steps<=F/\((found=true/\∃e d,x.ends=[e]/\x.ah=[d]/\r=⟨e,d,.nil⟩/\i<=e/\e<=t.length/\dj t d/\d.length=nc)\/(found=false/\x.ends=[]/\x.ah=[]))) \/
    (x.empty=true/\m1.bU=true/\found=false)):=by
 obtain⟨R,m',h1,h2,h3,h4,h5,h6⟩:=h;simp only[adt]at h1 h2;have II:m.top=S.length:=hM.gj.2.1;have fin:∀{m2 r found S'},Ev m S.length q true (m2,r,found)->wB m2 (S++S')->∃k,e8 (λm base p=>bn k true m base p true) m q=some (m2.clear S.length,r,found):=by intro m2 r found S' he ZD;obtain⟨k,hk⟩:=Ot hM.bU he;refine⟨k,?_⟩;simp only[e8];rw[II,hk];simp only;rw[am];have:=ZD.2.1;have:=ZD.len;rw[adx]at *;omega
 have XL:∀{m2:aA},Po m m2->Po m (m2.clear S.length):=λh=>⟨h.fr.trans (aA.vV _ _),h.steps,h.RU,h.SB,h.ck⟩
 rcases h6 with ⟨k1,k2,k3,k4,kF,p',k5⟩|⟨k1,k2,k3,k4,kF,S',R0,e,d,k5,k6,k7⟩|⟨k1,k2,k3,k4,p',S',k5,k6⟩
 ·-- none
  have hx:x.ends=[]:=adJ (by have:=k3 (by omega);omega);have hR:R=[]:=by rw[h1]at hx;exact List.map_eq_nil_iff.1 hx
  subst hR;have he:Ev m S.length q true (m',.zero,false):=sV k5 rfl (yw k4.gj.2.1);refine⟨_,_,_,fin (S':=[]) he (by simpa using k4.gj),XL h4,(show wB m' (S++[]) by simpa using k4.gj).clear,h5,.inl ⟨k2,?_,kF,.inr ⟨rfl,by simpa using h1,by simpa using h2⟩⟩⟩;exact k4.fr (aA.vV _ _) (show wB m' (S++[]) by simpa using k4.gj).clear k4.steps k4.bU k4.room
 ·have Y0:R0=[]:=by have:=congrArg List.length h1;rw[k6]at this;simp at this;exact adJ (by omega)
  subst Y0;simp only[adt]at k6;subst k6;have he:Ev m S.length q true (m',⟨e,d,.nil⟩,true):=by refine sV k7 rfl ?_;have:=FK (m:=m') (base:=S.length) (p:=⟨e,d,.nil⟩) rfl;rwa [k5.bU]at this
  have hr:=h3 (e,d) (by simp);refine⟨_,_,_,fin he k5.gj,XL h4,k5.gj.clear,h5,.inl ⟨k2,?_,kF,.inl ⟨rfl,e,d,by simpa using h1,by simpa using h2,rfl,hr.1,hr.2.1,hr.2.2.1,hr.2.2.2⟩⟩⟩;exact k5.fr (aA.vV _ _) k5.gj.clear k5.steps k5.bU (by have:=k5.room;rw[adx]at this;omega)
 ·have hx:x.ends=[]:=adJ (by have:=k3 (by omega);omega);have hR:R=[]:=by rw[h1]at hx;exact List.map_eq_nil_iff.1 hx
  subst hR
  -- JL search ends: at once,or behind one more choice
  have oh:∃m2 S2,Ev m' S.length p' false (m2,.zero,false)/\wB m2 (S++S2)/\m2.bU=true/\Po m' m2:=by
   rcases List.eq_nil_or_concat S' with rfl|⟨S2,q2,rfl⟩
   ·refine⟨m',[],yw (by simpa using k5.2.1),by simpa using k5,k4,.refl _⟩
   ·have Py:wB m' ((S++S2)++[q2]):=by simpa [adX]using k5
    refine⟨m'.pop,S2,?_,Py.last.2,k4,IN m'⟩;have hl:=Py.len;have ht:m'.top=(S++S2).length+1:=by rw[Py.2.1,adx];rfl
    refine⟨2,?_⟩;rw[bn.eq_2,am (show ¬(false=true/\m'.bU=true) from λh=>by cases h.1),am (λh=>by cases h.1),am (λh=>by cases h),am (by rw[ht,adx];omega),am (by have:=Py.2.2;omega),Py.last.1];simp only;rw[bn.eq_2,ap ⟨rfl,k4⟩]
  obtain⟨m2,S2,j1,j2,j3,j4⟩:=oh;exact⟨_,_,_,fin (sV k6 rfl j1) j2,XL (h4.trans j4),j2.clear,h5,.inr ⟨k2,j3,rfl⟩⟩
section VP
variable {m:aA}{i n a:Int}{c:aC}{r:aD}{g:aF}{y:Rs}
theorem mB (hg:m.bW ⟨i,c,.mk 0 r n a g⟩) (h:∃k,bq (λm base p=>bn k true m base p true) m r ⟨i,c,g⟩=some y):Qw m ⟨i,c,.mk 0 r n a g⟩ y:=by obtain⟨k,hk⟩:=h;refine⟨k,?_⟩;unfold gX;rw[am (by simpa using hg)];exact hk
theorem pd (hg:m.bW ⟨i,c,.mk 2 r n a g⟩) (hn:0<=n) (lX:n<=10000000000000) (h:ka m r n ⟨i,c,g⟩=some y):Qw m ⟨i,c,.mk 2 r n a g⟩ y:=by refine⟨0,?_⟩;unfold gX;rw[am (by simpa using hg)];simp only;rw[am (by decide),am (by omega),am (by decide),ap trivial];exact h
theorem Pu {re aL:Re} (hg:m.bW ⟨i,c,.mk 1 r n a g⟩) (hn:0<=n) (lX:n<=10000000000000) (hr:m.lit r=some re) (hl:re.kids.length<=1000000000) (hk:re.kids[n.toNat]?=some aL) :
  Qw m ⟨i,c,.mk 1 r n a g⟩ (if n+1<re.kids.length then m.push ⟨i,c,.mk 1 r (n+1) 0 g⟩ else m,⟨i,c,.mk 0 (.el aL) 0 0 g⟩,true):=by
 refine⟨0,?_⟩;unfold gX;rw[am (by simpa using hg)];simp only;rw[am (by decide),am (by omega),ap trivial,hr];simp only;rw[am (by omega),hk];rfl
theorem L5 (hg:m.bW ⟨i,c,.mk 3 r n a g⟩) (hn:0<=n) (lX:n<=10000000000000):Qw m ⟨i,c,.mk 3 r n a g⟩ (if i=a then (m,.zero,false) else (m,⟨i,c,.mk 2 r n 0 g⟩,true)):=by refine⟨0,?_⟩;unfold gX;rw[am (by simpa using hg)];simp only;rw[am (by decide),am (by omega),am (by decide),am (by decide),ap trivial];split <;> rfl
theorem Qq {re:Re} (hg:m.bW ⟨i,c,.mk 4 r 0 a g⟩) (hr:m.lit r=some re) (h1:1<=re.n) (h2:re.n<=c.length):Qw m ⟨i,c,.mk 4 r 0 a g⟩ (m,⟨i,c.set (re.n-1).toNat (a,i),g⟩,true):=by refine⟨0,?_⟩;unfold gX;rw[am (by simpa using hg)];simp only;rw[am (by decide),am (by decide),am (by decide),am (by decide),am (by decide),ap trivial,hr];simp only;rw[am (by omega)]
theorem Jv (hg:m.bW ⟨i,c,.mk 5 r 0 a g⟩):Qw m ⟨i,c,.mk 5 r 0 a g⟩ (m,⟨i,c,g⟩,decide (i=a)):=by refine⟨0,?_⟩;unfold gX;rw[am (by simpa using hg)];simp only;rw[am (by decide),am (by decide),am (by decide),am (by decide),am (by decide),am (by decide),ap trivial]
end VP
theorem wZ {nc:Int}{re:Re} (h:re.every (vB nc)=true):((re.op=3\/re.op=4\/re.op=5\/re.op=7\/re.op=8\/re.op=9->re.kids≠[])/\(re.op=10->2<=re.kids.length)/\re.set.length<=1000000000/\re.kids.length<=1000000000 /\
  (re.op=5\/re.op=6\/re.op=10->1<=re.n/\re.n<=nc)/\(re.op=11->0<=re.n/\re.n<=5)/\(re.op=4->-1<=re.mx))/\∀k∈re.kids,k.every (vB nc)=true:=by
 obtain⟨h1,h2⟩:=(Re.aQ re).1 h;exact⟨of_decide_eq_true h1,h2⟩
structure Fx (t:List Int) (F:Int) (nc:Nat):Prop where
 ht:t.length<=1000000
 hF:F<=1200000000000
 nc:nc<=1000000000
theorem SP.step {F ai:Int}{st:bd} (h:SP F ai st) (he:(st.step F).empty=false):st.steps<F/\SP F ai (st.step F):=by simp only[bd.step,h.empty,adY]at he;have h1:=of_decide_eq_false he;refine⟨by omega,?_,by show 0<=st.steps+1;have:=h.s0;omega,by show st.steps+1<=F;omega,h.ai⟩;simp only[bd.step,h.empty,adY];exact adl h1
theorem SP.KO {F ai:Int}{st:bd} (h:SP F ai st) (he:(st.step F).empty=true):F<=st.steps:=by simp only[bd.step,h.empty,adY]at he;have:=of_decide_eq_true he;omega
section rep
variable {P:Re}{t:List Int}{F:Int}{nc n:Nat} (X:Fx t F nc) (ih:T1 P t F nc n)
include X ih
theorem Q7 {ai:Int}{re P5:Re}{k i:Int}{c:aC}{next:Goal}{st st':bd}{b:Bool}{base:Nat}{S:List aw}{m:aA}{r:aD}{a:Int}{g:aF} (hM:MS P t F m S st.steps) (hS:SP F ai st) (hb:base<=S.length)
  (hr:xS P r=some P5) (YQ:RT P5 re) (hg:GR P g next) (hv:re.every (vB nc)=true) (o4:re.op=4) (mN:re.mode≠2) (hk0:0<=k) (oG:k<=st.steps) (hn:GK nc i st.steps next) (hi0:0<=i) (fD:i<=t.length) (hc:dj t c) (cZ:c.length=nc)
  (h:lR F (dO t F n) ai re k next i c st=some (b,st')):ic P t F nc base S ai i m ⟨i,c,.mk 2 r k a g⟩ true st b st':=by
 have fW:=hS.s0;have eC:=hS.s1;have hF:=X.hF;unfold lR at h;rw[am mN]at h;rw[am (show ¬(st.steps<0\/10000000000000<st.steps) by omega)]at h;simp only at h;have jd:=hM.bW (p:=⟨i,c,.mk 2 r k a g⟩) X.ht hF fW eC hi0 fD (by show c.length<=_;rw[cZ];exact X.nc);have Rj:=wx hM hr
 -- JL tree of JL machine
 have e0:P5.kids=re.kids/\P5.mn=re.mn/\P5.mx=re.mx/\(P5.mode=1 ↔ re.mode=1):=by
  rcases YQ with ⟨rfl,_⟩|⟨h2,rfl⟩
  ·exact⟨rfl,rfl,rfl,Iff.rfl⟩
  ·refine⟨rfl,rfl,rfl,?_⟩;rw[h2];simp [Re.db,Re.mode]
 obtain⟨e1,e2,e3,e4⟩:=e0;obtain⟨⟨v1,_,_,v4,_,_,v7⟩,Jh⟩:=wZ hv;obtain⟨aL,l,cI⟩:∃aL l,re.kids=aL::l:=by
  cases hh:re.kids with
  |nil=>exact absurd hh (v1 (by omega))
  |cons y l=>exact⟨y,l,rfl⟩
 have jQ:∀y,ka m r k ⟨i,c,g⟩=y->ka m r k ⟨i,c,g⟩=(if m.fuel<=m.steps then some (m.step,.zero,false) else if k<re.mn then some (m.step,⟨i,c,.mk 0 (.el aL) 0 0 (.mk 2 r (k+1) 0 g)⟩,true)
   else if 0<=re.mx/\re.mx<=k then some (m.step,⟨i,c,g⟩,true)
   else if re.mode=1 then some (m.step.push ⟨i,c,.mk 0 (.el aL) 0 0 (.mk 3 r (k+1) i g)⟩,⟨i,c,g⟩,true) else some (m.step.push ⟨i,c,g⟩,⟨i,c,.mk 0 (.el aL) 0 0 (.mk 3 r (k+1) i g)⟩,true)):=by
  intro y _;unfold ka;rw[Rj];simp only;rw[e1,cI,e2,e3];simp only[e4]
 have jQ:=jQ _ rfl;by_cases he:(st.step F).empty=true
 ·rw[ap he]at h;cases h;have KM:=hS.KO he;obtain⟨q1,q2,q3⟩:=EJ hM KM;refine ic.xX rfl (pd jd hk0 (by omega) (y:=(m.step,.zero,false)) ?_) q3 (ic.out q1 q2 he hS.ai rfl rfl (by show st.steps<=st.steps+1;omega));rw[jQ,ap (by rw[hM.steps,hM.fuel];exact KM)]
 rw[am he]at h;have he:(st.step F).empty=false:=by simpa using he
 obtain⟨aH,rz⟩:=hS.step he;obtain⟨DJ,Sf,_⟩:=Ks hM aH;rw[am (by rw[hM.steps,hM.fuel];omega)]at jQ;have uz:(st.step F).steps=st.steps+1:=rfl;have ni:(st.step F).ends=st.ends:=rfl;have OT:(st.step F).ah=st.ah:=rfl;rw[<- uz]at DJ;generalize Yb:st.step F=s1 at *;rw[cI]at h;simp only at h;have SV:aL.every (vB nc)=true:=Jh aL (by rw[cI];simp);have lX:GK nc i s1.steps next:=hn.mono (ady _) (by omega)
 -- one more round
 have once:∀(s s':bd) (b':Bool) (S2:List aw) (m2:aA),base<=S2.length->MS P t F m2 S2 s.steps->SP F ai s->s1.steps<=s.steps->dO t F n ai (.run (.mk 0 aL 0 0 (.mk 2 re k i next)) i c) s=some (b',s')->re.mn<=k->ic P t F nc base S2 ai i m2 ⟨i,c,.mk 0 (.el aL) 0 0 (.mk 3 r (k+1) i g)⟩ true s b' s':=by intro s s' b' S2 m2 NV Ms Zx Jx qy hmn;refine ih ai _ s b' s' qy base S2 m2 _ Ms Zx NV ⟨rfl,rfl,.tree rfl (.Su hr YQ hmn hg)⟩ ?_ hi0 fD hc cZ;exact⟨λ_=>SV,λh=>by omega,λh=>by omega,λh=>by omega,λh=>by omega,λ_=>hv,λ_=>⟨o4,mN,hk0⟩,λh=>by omega,λ_=>by omega,λh=>by omega,lX.mono (ady _) Jx⟩
 have Tu:∀(s s':bd) (b':Bool) (S2:List aw) (m2:aA),base<=S2.length->MS P t F m2 S2 s.steps->SP F ai s->s1.steps<=s.steps->dO t F n ai (.run next i c) s=some (b',s')->ic P t F nc base S2 ai i m2 ⟨i,c,g⟩ true s b' s':=by intro s s' b' S2 m2 NV Ms Zx Jx qy;exact ih ai _ s b' s' qy base S2 m2 _ Ms Zx NV ⟨rfl,rfl,hg⟩ (lX.mono (ady _) Jx) hi0 fD hc cZ
 by_cases c2:k<re.mn
 ·rw[ap c2]at h;rw[ap c2]at jQ;refine ic.xX rfl (pd jd hk0 (by omega) jQ) Sf (ic.oX ?_ (ady _) ni OT (by omega));refine ih ai _ s1 b st' h base S _ _ DJ rz hb ⟨rfl,rfl,.tree rfl (.more hr YQ c2 hg)⟩ ?_ hi0 fD hc cZ;exact⟨λ_=>SV,λh=>by omega,λh=>by omega,λh=>by omega,λh=>by omega,λ_=>hv,λ_=>⟨o4,mN,hk0⟩,λh=>by omega,λ_=>by omega,λh=>by omega,lX⟩
 rw[am c2]at h jQ;have AV:=v7 o4;by_cases cM:re.mx=-1\/k<re.mx
 ·rw[am (show ¬(0<=re.mx/\re.mx<=k) by omega)]at jQ;simp only[ap cM]at h;have qF:=hM.room;by_cases m1:re.mode=1
  ·rw[ap m1]at h jQ;obtain⟨VR,Wh⟩:=De DJ ⟨i,c,.mk 0 (.el aL) 0 0 (.mk 3 r (k+1) i g)⟩ (by omega) hF rz.s1;refine ic.xX rfl (pd jd hk0 (by omega) jQ) (Sf.trans Wh) (ic.oX ?_ (ady _) ni OT (by omega));cases hx:dO t F n ai (.run next i c) s1 with
   |none=>rw[hx]at h;cases h
   |some y =>
    obtain⟨b1,s2⟩:=y;rw[hx]at h;refine ic.or hb (Tu s1 s2 b1 _ _ (by rw[adx];omega) VR rz (ady _) hx) (λrm=>?_) (λrm m2 Aa Ms ym Wz A0 Jx=>?_)
    ·subst rm;simp only[mz]at h;cases h;exact⟨rfl,rfl⟩
    ·subst rm;simp only[mz]at h;exact once s2 st' b S m2.pop hb Ms.pop ⟨ym,by omega,Wz,A0⟩ Jx h (by omega)
  ·rw[am m1]at h jQ;obtain⟨VR,Wh⟩:=De DJ ⟨i,c,g⟩ (by omega) hF rz.s1;refine ic.xX rfl (pd jd hk0 (by omega) jQ) (Sf.trans Wh) (ic.oX ?_ (ady _) ni OT (by omega));cases hx:dO t F n ai (.run (.mk 0 aL 0 0 (.mk 2 re k i next)) i c) s1 with
   |none=>rw[hx]at h;cases h
   |some y =>
    obtain⟨b1,s2⟩:=y;rw[hx]at h;refine ic.or hb (once s1 s2 b1 _ _ (by rw[adx];omega) VR rz (ady _) hx (by omega)) (λrm=>?_) (λrm m2 Aa Ms ym Wz A0 Jx=>?_)
    ·subst rm;simp only[mz]at h;cases h;exact⟨rfl,rfl⟩
    ·subst rm;simp only[mz]at h;exact Tu s2 st' b S m2.pop hb Ms.pop ⟨ym,by omega,Wz,A0⟩ Jx h
 ·rw[ap (show 0<=re.mx/\re.mx<=k by omega)]at jQ;simp only[am cM]at h;have h':dO t F n ai (.run next i c) s1=some (b,st'):=by
   split at h
   ·cases hx:dO t F n ai (.run next i c) s1 with
    |none=>rw[hx]at h;cases h
    |some y =>
     obtain⟨b1,s2⟩:=y;rw[hx]at h;cases b1 with
     |true=>exact h
     |false=>exact h
   ·exact h
  refine ic.xX rfl (pd jd hk0 (by omega) jQ) Sf (ic.oX (Tu s1 st' b S _ hb DJ rz (ady _) h') (ady _) ni OT (by omega))
end rep
section nodes
variable {P:Re}{t:List Int}{F:Int}{nc n:Nat} (X:Fx t F nc) (ih:T1 P t F nc n)
include ih
theorem wC {h:Goal}{q:Int}{c:aC}{st s2:bd}{o:Option (Int×aC)}{S:List aw}{m:aA}{gb:aF} (hM:MS P t F m S st.steps) (he:st.empty=false) (fW:0<=st.steps) (eC:st.steps<=F) (hg:GR P gb h) (hk:GK nc q st.steps h) (hq0:0<=q) (hq1:q<=t.length) (hc:dj t c) (cZ:c.length=nc)
  (hr:bS (dO t F n) h q c st=some (o,s2)) :
  ∃m1 r found,(∃k,e8 (λm base p=>bn k true m base p true) m ⟨q,c,gb⟩=some (m1,r,found))/\Po m m1/\wB m1 S/\st.steps<=s2.steps/\s2.ends=st.ends/\s2.ah=st.ah /\
   ((s2.empty=false/\MS P t F m1 S s2.steps/\s2.steps<=F/\((found=true/\∃e d,o=some (e,d)/\r=⟨e,d,.nil⟩/\q<=e/\e<=t.length/\dj t d/\d.length=nc)\/(found=false/\o=none))) \/
    (s2.empty=true/\m1.bU=true/\found=false/\o=none)):=by
 unfold bS at hr;cases hx:dO t F n 1 (.run h q c) ⟨st.steps,false,[],[]⟩ with
 |none=>rw[hx]at hr;cases hr
 |some y =>
  obtain⟨b,x⟩:=y;rw[hx]at hr;simp only at hr;have FH:=ih 1 _ _ _ _ hx S.length S m ⟨q,c,gb⟩ hM ⟨rfl,fW,eC,λ_=>by simp⟩ (adB _) ⟨rfl,rfl,hg⟩ hk hq0 hq1 hc cZ;obtain⟨m1,r,found,k1,k2,k3,k4,k5⟩:=LK hM FH;rcases k5 with ⟨j1,j2,j3,j4⟩|⟨j1,j2,j3⟩
  ·rw[am (by rw[j1];exact ad2)]at hr;rcases j4 with ⟨l1,e,d,l2,l3,l4,l5,l6,l7,l8⟩|⟨l1,l2,l3⟩
   ·rw[l2,l3]at hr;cases hr;exact⟨m1,r,found,k1,k2,k3,k4,rfl,rfl,.inl ⟨j1,j2,j3,.inl ⟨l1,e,d,rfl,l4,l5,l6,l7,l8⟩⟩⟩
   ·rw[l2,l3]at hr;cases hr;exact⟨m1,r,found,k1,k2,k3,k4,rfl,rfl,.inl ⟨j1,j2,j3,.inr ⟨l1,rfl⟩⟩⟩
  ·rw[ap j1]at hr;cases hr;exact⟨m1,r,found,k1,k2,k3,k4,rfl,rfl,.inr ⟨j1,j2,j3,rfl⟩⟩
def Gw (P:Re) (t:List Int) (F:Int) (nc:Nat) (S:List aw) (neg:Bool) (p:aw) (m:aA) (st:bd) (ro:Option aC) (s2:bd) (x:Rs):Prop :=
 Po m x.1/\wB x.1 S/\st.steps<=s2.steps/\s2.ends=st.ends/\s2.ah=st.ah /\
  ((s2.empty=true/\x.1.bU=true/\x.2.2=false) \/
   (s2.empty=false/\MS P t F x.1 S s2.steps/\s2.steps<=F/\((ro=none/\x.2.1=p/\x.2.2=neg)\/∃d,ro=some d/\dj t d/\d.length=nc/\((neg=true/\x.2.2=false)\/(neg=false/\x.2.1={ p with ah:=d }/\x.2.2=true)))))
theorem wA {h:Goal}{gb:aF}{c:aC}{S:List aw}{neg:Bool}{p:aw}{last:Int} (hg:GR P gb h) (hc:dj t c) (cZ:c.length=nc):∀(j:Nat) (m:aA) (st s2:bd) (ro:Option aC),
  (∀q:Nat,q<j->0<=last+q/\last+q<=t.length)->(∀(q s:Int),st.steps<=s->GK nc q s h)->MS P t F m S st.steps->st.empty=false->0<=st.steps->st.steps<=F ->
  cz (λk st=>bS (dO t F n) h (last+k) c st) j st=some (ro,s2) ->
  ∃x,(∃k,gJ (λq m=>e8 (λm base p=>bn k true m base p true) m ⟨q,c,gb⟩) neg p last j m=some x)/\Gw P t F nc S neg p m st ro s2 x
 |0,m,st,s2,ro,_,_,hM,he,_,eC,hr=>by simp only[cz]at hr;cases hr;exact⟨(m,p,neg&&!m.bU),⟨0,rfl⟩,.refl m,hM.gj,ady _,rfl,rfl,.inr ⟨he,hM,eC,.inl ⟨rfl,rfl,by rw[hM.bU];simp⟩⟩⟩
 |j+1,m,st,s2,ro,hq,hk,hM,he,fW,eC,hr=>by
  simp only[cz]at hr;rw[am (by rw[he];exact ad2)]at hr;have hqj:=hq j (by omega);cases hx:bS (dO t F n) h (last+j) c st with
  |none=>rw[hx]at hr;cases hr
  |some y =>
   obtain⟨o,s3⟩:=y;rw[hx]at hr;obtain⟨m1,r,found,⟨k1,oG⟩,k2,k3,k4,k5,k6,k7⟩:=wC ih hM he fW eC hg (hk _ _ (ady _)) hqj.1 hqj.2 hc cZ hx;rcases k7 with ⟨j1,j2,j3,⟨rfl,e,d,rfl,rfl,l3,l4,l5,l6⟩|⟨rfl,rfl⟩⟩|⟨j1,j2,rfl,rfl⟩
   ·simp only at hr;cases hr;refine⟨if neg=true then (m1,.zero,false) else (m1,{ p with ah:=d },true),⟨k1,?_⟩,?_⟩
    ·simp only[gJ];rw[am (by rw[hM.bU];exact ad2),oG];simp only[if_true];split <;> rfl
    ·cases neg with
     |true=>exact⟨k2,k3,k4,k5,k6,.inr ⟨j1,j2,j3,.inr ⟨d,rfl,l5,l6,.inl ⟨rfl,rfl⟩⟩⟩⟩
     |false=>exact⟨k2,k3,k4,k5,k6,.inr ⟨j1,j2,j3,.inr ⟨d,rfl,l5,l6,.inr ⟨rfl,rfl,rfl⟩⟩⟩⟩
   ·simp only at hr;obtain⟨x,⟨XA,AT⟩,p1,p2,p3,p4,p5,p6⟩:=wA hg hc cZ j m1 s3 s2 ro (λq hqq=>hq q (by omega)) (λq s Jx=>hk q s (by omega)) j2 j1 (by omega) j3 hr;refine⟨x,⟨max k1 XA,?_⟩,k2.trans p1,p2,by omega,by rw[p4,k5],by rw[p5,k6],p6⟩;simp only[gJ];rw[am (by rw[hM.bU];exact ad2),nB (λm base p x hx=>pS (Nat.le_max_left k1 XA) hx) oG];simp only[adq,if_false];exact tJ (λq m x hx=>nB (λm base p x hx=>pS (Nat.le_max_right k1 XA) hx) hx) _ _ _ AT
   ·simp only at hr;have hr2:(ro,s2)=(none,s3):=by
     cases j with
     |zero=>simp only[cz]at hr;exact(Option.some.inj hr).symm
     |succ j=>simp only[cz]at hr;rw[ap j1]at hr;exact(Option.some.inj hr).symm
    cases hr2;refine⟨(m1,p,neg&&!m1.bU),⟨k1,?_⟩,k2,k3,k4,k5,k6,.inl ⟨j1,j2,by rw[j2];simp⟩⟩;simp only[gJ];rw[am (by rw[hM.bU];exact ad2),oG];simp only[adq,if_false];cases j with
    |zero=>simp only[gJ]
    |succ j=>simp only[gJ];rw[ap j2]
include X
theorem Kp {ai:Int}{re:Re}{i:Int}{c:aC}{next:Goal}{base:Nat}{r:aD}{g:aF}{b:Bool}{st':bd} (hr:xS P r=some re) (hg:GR P g next) (hv:re.every (vB nc)=true) (hi0:0<=i) (fD:i<=t.length) (hc:dj t c) (cZ:c.length=nc) :
  ∀(l:List Re) (j:Nat) (st:bd) (S:List aw) (m:aA) (a:Int),re.kids.drop j=l->l≠[]->MS P t F m S st.steps->SP F ai st->(S.length:Int)+1<=st.steps->base<=S.length->GK nc i st.steps next ->
   lL (λk st=>dO t F n ai (.run (.mk 0 k 0 0 next) i c) st) l st=some (b,st')->ic P t F nc base S ai i m ⟨i,c,.mk 1 r j a g⟩ true st b st'
 |[],_,_,_,_,_,_,fG,_,_,_,_,_,_=>absurd rfl fG
 |aL::l,j,st,S,m,a,hl,_,hM,hS,qF,hb,hk,h=>by
  have kS:re.kids[j]?=some aL:=by have:=congrArg (λl=>l[0]?) hl;simpa using this
  have hj:=(List.getElem?_eq_some_iff.1 kS).1;obtain⟨⟨_,_,_,v4,_,_,_⟩,Jh⟩:=wZ hv;have jd:=hM.bW (p:=⟨i,c,.mk 1 r j a g⟩) X.ht X.hF hS.s0 hS.s1 hi0 fD (by show c.length<=_;rw[cZ];exact X.nc);have qu:=Pu (re:=re) (aL:=aL) jd (by omega) (by omega) (wx hM hr) v4 (by simpa using kS);have dJ:∀(c8:bd) (b1:Bool) (s2:bd) (S2:List aw) (m2:aA),dO t F n ai (.run (.mk 0 aL 0 0 next) i c) c8=some (b1,s2)->MS P t F m2 S2 c8.steps->SP F ai c8->base<=S2.length->st.steps<=c8.steps ->
    ic P t F nc base S2 ai i m2 ⟨i,c,.mk 0 (.el aL) 0 0 g⟩ true c8 b1 s2:=by
   intro c8 b1 s2 S2 m2 qy Ms R4 NV Jx;exact ih ai _ c8 b1 s2 qy base S2 m2 _ Ms R4 NV ⟨rfl,rfl,.tree rfl hg⟩ ⟨λ_=>Jh aL (adw kS),λh=>by omega,λh=>by omega,λh=>by omega,λh=>by omega,hk.mono (ady _) Jx⟩ hi0 fD hc cZ
  have Pf:re.kids.drop (j+1)=l:=by
   have h1:re.kids.drop (j+1)=(re.kids.drop j).drop 1:=by rw[List.drop_drop]
   rw[h1,hl];rfl
  simp only[lL]at h;cases hx:dO t F n ai (.run (.mk 0 aL 0 0 next) i c) st with
  |none=>rw[hx]at h;cases h
  |some y =>
   obtain⟨b1,s2⟩:=y;rw[hx]at h;cases l with
   |nil =>
    have hlen:re.kids.length=j+1:=by have:=congrArg List.length Pf;simp at this;omega
    rw[am (by omega)]at qu;have P1:b1=b/\s2=st':=by
     cases b1 with
     |true=>simp only[mz]at h;cases h;exact⟨rfl,rfl⟩
     |false=>simp only[mz,lL]at h;cases h;exact⟨rfl,rfl⟩
    obtain⟨rfl,rfl⟩:=P1;exact ic.xX rfl qu (.refl m) (dJ st b1 s2 S m hx hM hS hb (ady _))
   |cons k2 l2 =>
    have hlen:j+1<re.kids.length:=by have:=congrArg List.length Pf;simp at this;omega
    rw[ap (by omega)]at qu;obtain⟨VR,Wh⟩:=De hM ⟨i,c,.mk 1 r ((j:Int)+1) 0 g⟩ qF X.hF hS.s1;refine ic.xX rfl qu Wh ?_;refine ic.or hb (dJ st b1 s2 _ _ hx VR hS (by rw[adx];omega) (ady _)) (λrm=>?_) (λrm m2 Aa Ms ym Wz A0 Jx=>?_)
    ·subst rm;simp only[mz]at h;cases h;exact⟨rfl,rfl⟩
    ·subst rm;simp only[mz]at h;have:=Kp hr hg hv hi0 fD hc cZ (k2::l2) (j+1) s2 S m2.pop 0 Pf (by simp) Ms.pop ⟨ym,by have:=hS.s0;omega,Wz,A0⟩ (by omega) hb (hk.mono (ady _) Jx) h;simpa using this
end nodes
theorem KH {P:Re}{g:aF}{h:Goal} (hg:GR P g h):∀l:List Re,GR P (eJ l g) (ft l h)
 |[]=>hg
 |k::l=>.tree rfl (KH hg l)
theorem KP {nc i s:Int}{h:Goal} (hk:GK nc i s h):∀l:List Re,(∀k∈l,k.every (vB nc)=true)->GK nc i s (ft l h)
 |[],_=>hk
 |k::l,hv=>⟨λ_=>hv k (by simp),λh=>by omega,λh=>by omega,λh=>by omega,λh=>by omega,KP hk l (λx hx=>hv x (by simp [hx]))⟩
section nodes
variable {P:Re}{t:List Int}{F:Int}{nc n:Nat} (X:Fx t F nc) (ih:T1 P t F nc n)
include X ih
theorem Ny {ai:Int}{re:Re}{i:Int}{c:aC}{next:Goal}{st st':bd}{b:Bool}{base:Nat}{S:List aw}{m:aA}{r:aD}{n0 a:Int}{g:aF} (hM:MS P t F m S st.steps) (hS:SP F ai st) (hb:base<=S.length)
  (hr:xS P r=some re) (hg:GR P g next) (hv:re.every (vB nc)=true) (o4:re.op≠4) (hn:GK nc i st.steps next) (hi0:0<=i) (fD:i<=t.length) (hc:dj t c) (cZ:c.length=nc)
  (h:(if (st.step F).empty then some (true,st.step F) else dw t (dO t F n) ai re next i c (st.step F))=some (b,st')):ic P t F nc base S ai i m ⟨i,c,.mk 0 r n0 a g⟩ true st b st':=by
 have fW:=hS.s0;have eC:=hS.s1;have hF:=X.hF;have Uz:c.length<=1000000000:=by rw[cZ];exact X.nc
 have jd:=hM.bW (p:=⟨i,c,.mk 0 r n0 a g⟩) X.ht hF fW eC hi0 fD Uz;have Rj:=wx hM hr;obtain⟨⟨v1,v2,v3,v4,v5,v6,_⟩,Jh⟩:=wZ hv;by_cases he:(st.step F).empty=true
 ·rw[ap he]at h;cases h;have KM:=hS.KO he;obtain⟨q1,q2,q3⟩:=EJ hM KM;refine ic.xX rfl (mB jd (y:=(m.step,.zero,false)) ⟨0,?_⟩) q3 (ic.out q1 q2 he hS.ai rfl rfl (by show st.steps<=st.steps+1;omega));unfold bq;rw[Rj];simp only;rw[am (by omega),am o4,ap (by rw[hM.steps,hM.fuel];exact KM)]
 rw[am he]at h;have he:(st.step F).empty=false:=by simpa using he
 obtain⟨aH,rz⟩:=hS.step he;obtain⟨DJ,Sf,_⟩:=Ks hM aH;have V9:¬m.fuel<=m.steps:=by rw[hM.steps,hM.fuel];omega
 have uz:(st.step F).steps=st.steps+1:=rfl;have ni:(st.step F).ends=st.ends:=rfl;have OT:(st.step F).ah=st.ah:=rfl;rw[<- uz]at DJ;generalize Yb:st.step F=s1 at *;have lX:GK nc i s1.steps next:=hn.mono (ady _) (by omega)
 have Ru:m.step.t=t:=DJ.t;have qF:=hM.room
 -- JL goals behind
 have go:∀(e:Int) (d:aC) (s2:bd) (m2:aA) (b2:Bool) (s3:bd),MS P t F m2 S s2.steps->SP F ai s2->s1.steps<=s2.steps->i<=e->e<=t.length->dj t d->d.length=nc->dO t F n ai (.run next e d) s2=some (b2,s3)->ic P t F nc base S ai e m2 ⟨e,d,g⟩ true s2 b2 s3:=by intro e d s2 m2 b2 s3 Ms R4 Jx nj ym hd Pg qy;exact ih ai _ s2 b2 s3 qy base S m2 _ Ms R4 hb ⟨rfl,rfl,hg⟩ (lX.mono nj Jx) (by show (0:Int)<=e;omega) ym hd Pg
 have VD:∀(gb:aF) (hh:Goal) (b2:Bool) (s3:bd),GR P gb hh->GK nc i s1.steps hh->dO t F n ai (.run hh i c) s1=some (b2,s3)->ic P t F nc base S ai i m.step ⟨i,c,gb⟩ true s1 b2 s3:=by intro gb hh b2 s3 O3 XF qy;exact ih ai _ s1 b2 s3 qy base S m.step _ DJ rz hb ⟨rfl,rfl,O3⟩ XF hi0 fD hc cZ
 -- one move,then JL rest
 have mv:∀(y:aw) (al:Bool),(∀rec,bq rec m r ⟨i,c,g⟩=some (m.step,y,al))->ic P t F nc base S ai i m.step y al s1 b st'->ic P t F nc base S ai i m ⟨i,c,.mk 0 r n0 a g⟩ true st b st':=λy al Zf FH =>
  ic.xX rfl (mB jd ⟨0,Zf _⟩) Sf (FH.oX (ady _) ni OT (by omega))
 have dead:∀(y:aw),b=false->st'=s1->ic P t F nc base S ai i m.step y false s1 b st':=λy rm hs=>by subst rm;subst hs;exact ic.no DJ rz.empty rz.ai rz.s1
 have mb:∀rec,bq rec m r ⟨i,c,g⟩=(let m:=m.step
   if re.op=1 then some (m,kr m.t re ⟨i,c,g⟩)
   else if re.op=2 then some (m,⟨i,c,eJ re.kids g⟩,true)
   else if re.op=3 then some (m,kq ⟨i,c,g⟩ 1 r 0 0,true)
   else if re.op=5 then match re.kids with
    |[]=>none
    |aL::_=>some (m,kq (kq ⟨i,c,g⟩ 4 r 0 i) 0 (.el aL) 0 0,true)
   else if re.op=6 then match FY m.t re ⟨i,c,g⟩ with
    |none=>none
    |some x=>some (m,x)
   else if re.op=7\/re.op=8 then match re.kids with
    |[]=>none
    |aL::_=>lj rec m re aL ⟨i,c,g⟩
   else if re.op=9 then match re.kids with
    |[]=>none
    |aL::_=>jV rec m ⟨i,c,g⟩ (.mk 0 (.el aL) 0 0 .nil)
   else if re.op=10 then match re.kids with
    |yes::no::_=>if re.n<1\/(c.length:Int)<re.n then none else some (m,kq ⟨i,c,g⟩ 0 (.el (if 0<=(c.getD (re.n-1).toNat (-1,-1)).1 then yes else no)) 0 0,true)
    |_=>none
   else if re.op=11 then (if re.n<0\/5<re.n then none else some (m,⟨i,c,g⟩,bN re.n m.t i))
   else some (m,⟨i,c,g⟩,true)):=by
  intro rec;unfold bq;rw[Rj];simp only;rw[am (by omega),am o4,am V9];rfl
 simp only at mb;unfold dw at h;by_cases o1:re.op=1
 ·rw[ap o1]at h;simp only[ap o1]at mb;by_cases q:i<t.length/\tv re.set (gQ t i)=true
  ·rw[ap q]at h;refine mv ⟨i+1,c,g⟩ true (λrec=>?_) ((go (i+1) c s1 m.step b st' DJ rz (ady _) (by omega) (by omega) hc cZ h).oX (by omega) rfl rfl (ady _));rw[mb rec];unfold kr;rw[Ru,ap q]
  ·rw[am q]at h;cases h;refine mv .zero false (λrec=>?_) (dead _ rfl rfl);rw[mb rec];unfold kr;rw[Ru,am q]
 rw[am o1]at h;simp only[am o1]at mb;by_cases o2:re.op=2
 ·rw[ap o2]at h;simp only[ap o2]at mb;exact mv _ true mb (VD _ _ b st' (KH hg re.kids) (KP lX re.kids Jh) h)
 rw[am o2]at h;simp only[am o2]at mb;by_cases o3:re.op=3
 ·rw[ap o3]at h;simp only[ap o3]at mb;refine mv _ true mb ?_;exact Kp X ih hr hg hv hi0 fD hc cZ re.kids 0 s1 S m.step 0 rfl (v1 (.inl o3)) DJ rz (by omega) hb lX h
 rw[am o3]at h;simp only[am o3]at mb;by_cases o5:re.op=5
 ·rw[ap o5]at h;simp only[ap o5]at mb;cases hk:re.kids with
  |nil=>rw[hk]at h;cases h
  |cons aL l =>
   rw[hk]at h;simp only[hk]at mb;refine mv _ true mb (VD _ _ b st' (.tree rfl (.cap hr hg)) ?_ h);exact⟨λ_=>Jh aL (by rw[hk];simp),λh=>by omega,λh=>by omega,λh=>by omega,λh=>by omega,λ_=>hv,λh=>by omega,λh=>by omega,λh=>by omega,λ_=>⟨o5,hi0,ady _⟩,lX⟩
 rw[am o5]at h;simp only[am o5]at mb;by_cases o6:re.op=6
 ·rw[ap o6]at h;simp only[ap o6]at mb;simp only at h;obtain⟨w1,w2⟩:=v5 (by omega);have du:bH c re.n=c.getD (re.n-1).toNat (-1,-1):=by unfold bH;rw[am (by omega)]
  have PV:=Hb hc re.n;rw[du]at h PV;have hrf:FY t re ⟨i,c,g⟩=(let x:=c.getD (re.n-1).toNat (-1,-1)
    if x.1<0\/(t.length:Int)-i<x.2-x.1 then some (.zero,false) else if x.2<x.1\/(t.length:Int)<x.2 then none
    else if dI t x.1 i (x.2-x.1).toNat=true then some (⟨i+(x.2-x.1),c,g⟩,true) else some (.zero,false)):=by
   unfold FY;rw[am (by show ¬(re.n<1\/(c.length:Int)<re.n);omega)];simp only;rw[am];have ht:=X.ht;rcases PV with PV|PV
   ·rw[PV];simp
   ·omega
  rw[Ru,hrf]at mb;generalize c.getD (re.n-1).toNat (-1,-1)=x at *;obtain⟨x1,x2⟩:=x;simp only at h mb PV;by_cases q1:x1<0
  ·rw[ap q1]at h;simp only[ap (show x1<0\/(t.length:Int)-i<x2-x1 from .inl q1)]at mb;cases h;exact mv _ _ mb (dead _ rfl rfl)
  rw[am q1]at h;by_cases q2:x2<x1\/(t.length:Int)<x2
  ·rw[ap q2]at h;cases h
  rw[am q2]at h;by_cases q3:t.length<i+x2-x1
  ·rw[ap q3]at h;simp only[ap (show x1<0\/(t.length:Int)-i<x2-x1 from .inr (by omega))]at mb;cases h;exact mv _ _ mb (dead _ rfl rfl)
  rw[am q3]at h;simp only[am (show ¬(x1<0\/(t.length:Int)-i<x2-x1) by omega),am q2]at mb;by_cases q4:dI t x1 i (x2-x1).toNat=true
  ·rw[ap q4]at h;simp only[ap q4]at mb;have dx:i+x2-x1=i+(x2-x1):=by omega
   rw[dx]at h;exact mv _ _ mb ((go (i+(x2-x1)) c s1 m.step b st' DJ rz (ady _) (by omega) (by omega) hc cZ h).oX (by omega) rfl rfl (ady _))
  ·rw[am q4]at h;simp only[am q4]at mb;cases h;exact mv _ _ mb (dead _ rfl rfl)
 rw[am o6]at h;simp only[am o6]at mb;by_cases o7:re.op=7\/re.op=8
 ·rw[ap o7]at h;simp only[ap o7]at mb;cases hk:re.kids with
  |nil=>rw[hk]at h;cases h
  |cons aL l =>
   rw[hk]at h;simp only[hk]at mb;simp only at h;have SV:aL.every (vB nc)=true:=Jh aL (by rw[hk];simp)
   -- JL look
   cases Ed:iR (dO t F n) re.op aL i c s1 with
   |none=>rw[Ed]at h;cases h
   |some y =>
    obtain⟨ro,s2⟩:=y;rw[Ed]at h;simp only at h;have look:∃x,(∃k,lj (λm base p=>bn k true m base p true) m.step re aL ⟨i,c,g⟩=some x)/\Gw P t F nc S re.neg ⟨i,c,g⟩ m.step s1 ro s2 x:=by
     unfold iR at Ed;unfold lj;by_cases p7:re.op=7
     ·rw[ap p7]at Ed;have p8:¬re.op=8:=by omega
      simp only[am p8,kG];have Zk:cz (λk st=>bS (dO t F n) (.mk 0 aL 0 0 .nil) (i+k) c st) 1 s1=some (ro,s2):=by
       simp only[cz];rw[am (by rw[rz.empty];exact ad2)];cases hf:bS (dO t F n) (.mk 0 aL 0 0 .nil) i c s1 with
       |none=>rw[hf]at Ed;cases Ed
       |some z =>
        obtain⟨o,s3⟩:=z;rw[hf]at Ed;rw[show i+((0:Nat):Int)=i by omega,hf];cases Ed;cases o with
        |none=>rfl
        |some e=>rfl
      exact wA ih (.tree rfl .nil) hc cZ 1 m.step s1 s2 ro (λq hq=>by omega) (λq s _=>⟨λ_=>SV,λh=>by omega,λh=>by omega,λh=>by omega,λh=>by omega,trivial⟩) DJ rz.empty rz.s0 rz.s1 Zk
     ·rw[am p7]at Ed;have p8:re.op=8:=by omega
      simp only[ap p8,kG];have Zk:cz (λk st=>bS (dO t F n) (.mk 0 aL 0 0 (.mk 4 (.mk 0 [] [] 0 0 0 0 false) 0 i .nil)) (0+k) c st) (i.toNat+1) s1=some (ro,s2):=by
       have:(λ(k:Int) (st:bd)=>bS (dO t F n) (.mk 0 aL 0 0 (.mk 4 (.mk 0 [] [] 0 0 0 0 false) 0 i .nil)) (0+k) c st)=λk st=>bS (dO t F n) (.mk 0 aL 0 0 (.mk 4 (.mk 0 [] [] 0 0 0 0 false) 0 i .nil)) k c st:=by funext k st;rw[Int.zero_add]
       rw[this];exact Ed
      exact wA ih (.tree rfl (.N5 .nil)) hc cZ (i.toNat+1) m.step s1 s2 ro (λq hq=>by omega) (λq s _=>⟨λ_=>SV,λh=>by omega,λh=>by omega,λh=>by omega,λh=>by omega,λh=>absurd rfl h,λh=>by omega,λh=>by omega,λh=>by omega,λh=>by omega,trivial⟩) DJ rz.empty rz.s0 rz.s1 Zk
    obtain⟨x,⟨k,hkx⟩,p1,p2,p3,p4,p5,p6⟩:=look;obtain⟨m2,p',QJ⟩:=x;simp only at p1 p2 p6;refine ic.xX rfl (mB jd ⟨k,by rw[mb];exact hkx⟩) (Sf.trans p1) (ic.oX (s0:=s2) ?_ (ady _) (by rw[p4,ni]) (by rw[p5,OT]) (by omega));have lW:0<=ai->(s2.ends.length:Int)<ai:=by rw[p4];exact rz.ai
    rcases p6 with ⟨e1,e2,rfl⟩|⟨e1,e2,e3,e4⟩
    ·rw[ap e1]at h;cases h;exact ic.out p2 e2 e1 lW rfl rfl (ady _)
    ·rw[am (by rw[e1];exact ad2)]at h;have R4:SP F ai s2:=⟨e1,by have:=rz.s0;omega,e3,lW⟩
     rcases e4 with ⟨rfl,rfl,rfl⟩|⟨d,rfl,hd,Pg,e5⟩
     ·by_cases cS:re.neg=true
      ·rw[ap cS]at h;rw[cS];exact go i c s2 m2 b st' e2 R4 p3 (ady _) fD hc cZ h
      ·rw[am cS]at h;have cS:re.neg=false:=by simpa using cS
       rw[cS];cases h;exact ic.no e2 e1 lW e3
     ·rcases e5 with ⟨cS,rfl⟩|⟨cS,rfl,rfl⟩
      ·rw[ap cS]at h;cases h;exact ic.no e2 e1 lW e3
      ·rw[am (by rw[cS];exact ad2)]at h;exact go i d s2 m2 b st' e2 R4 p3 (ady _) fD hd Pg h
 rw[am o7]at h;simp only[am o7]at mb;by_cases o9:re.op=9
 ·rw[ap o9]at h;simp only[ap o9]at mb;cases hk:re.kids with
  |nil=>rw[hk]at h;cases h
  |cons aL l =>
   rw[hk]at h;simp only[hk]at mb;simp only at h;have SV:aL.every (vB nc)=true:=Jh aL (by rw[hk];simp);cases hf:bS (dO t F n) (.mk 0 aL 0 0 .nil) i c s1 with
   |none=>rw[hf]at h;cases h
   |some y =>
    obtain⟨o,s2⟩:=y;rw[hf]at h;simp only at h;obtain⟨m2,rr,found,⟨k,oG⟩,k2,k3,k4,k5,k6,k7⟩:=wC ih (gb:=.mk 0 (.el aL) 0 0 .nil) DJ rz.empty rz.s0 rz.s1 (.tree rfl .nil) ⟨λ_=>SV,λh=>by omega,λh=>by omega,λh=>by omega,λh=>by omega,trivial⟩ hi0 fD hc cZ hf;have Sj:jV (λm base p=>bn k true m base p true) m.step ⟨i,c,g⟩ (.mk 0 (.el aL) 0 0 .nil)=some (m2,{ rr with todo:=g },found):=by unfold jV;rw[oG]
    refine ic.xX rfl (mB jd ⟨k,by rw[mb];exact Sj⟩) (Sf.trans k2) (ic.oX (s0:=s2) ?_ (ady _) (by rw[k5,ni]) (by rw[k6,OT]) (by omega));have lW:0<=ai->(s2.ends.length:Int)<ai:=by rw[k5];exact rz.ai
    rcases k7 with ⟨j1,j2,j3,⟨rfl,e,d,rfl,rfl,l3,l4,l5,l6⟩|⟨rfl,rfl⟩⟩|⟨j1,j2,rfl,rfl⟩
    ·rw[am (by rw[j1];exact ad2)]at h;simp only at h;exact(go e d s2 m2 b st' j2 ⟨j1,by have:=rz.s0;omega,j3,lW⟩ k4 l3 l4 l5 l6 h).oX l3 rfl rfl (ady _)
    ·rw[am (by rw[j1];exact ad2)]at h;cases h;exact ic.no j2 j1 lW j3
    ·rw[ap j1]at h;cases h;exact ic.out k3 j2 j1 lW rfl rfl (ady _)
 rw[am o9]at h;simp only[am o9]at mb;by_cases rF:re.op=10
 ·rw[ap rF]at h;simp only[ap rF]at mb;obtain⟨w1,w2⟩:=v5 (by omega);have du:bH c re.n=c.getD (re.n-1).toNat (-1,-1):=by unfold bH;rw[am (by omega)]
  rw[du]at h
  match hk:re.kids with
  |[]=>rw[hk]at h;cases h
  |[_]=>rw[hk]at h;cases h
  |yes::no::l =>
   rw[hk]at h;simp only[hk]at mb;simp only at h;simp only[am (show ¬(re.n<1\/(c.length:Int)<re.n) by omega)]at mb;refine mv _ _ mb (VD _ _ b st' (.tree rfl hg) ⟨λ_=>?_,λh=>by omega,λh=>by omega,λh=>by omega,λh=>by omega,lX⟩ h);split
   ·exact Jh yes (by rw[hk];simp)
   ·exact Jh no (by rw[hk];simp)
 rw[am rF]at h;simp only[am rF]at mb;by_cases nb:re.op=11
 ·rw[ap nb]at h;simp only[ap nb]at mb;obtain⟨w1,w2⟩:=v6 nb;rw[Ru]at mb;simp only[am (show ¬(re.n<0\/5<re.n) by omega)]at mb;by_cases q:bN re.n t i=true
  ·rw[ap q]at h;rw[q]at mb;exact mv _ _ mb (VD _ _ b st' hg lX h)
  ·rw[am q]at h;have q:bN re.n t i=false:=by simpa using q
   rw[q]at mb;cases h;exact mv _ _ mb (dead _ rfl rfl)
 rw[am nb]at h;simp only[am nb]at mb;exact mv _ _ mb (VD _ _ b st' hg lX h)
end nodes
theorem Ir {nc:Int}{re:Re} (h:re.every (vB nc)=true) (m:Int):(re.db m).every (vB nc)=true:=by rw[Re.aQ]at h ⊢;exact⟨h.1,h.2⟩
section all
variable {P:Re}{t:List Int}{F:Int}{nc:Nat} (X:Fx t F nc)
variable{st:bd}{c:aC}{base:Nat}{S:List aw}{m:aA}{st':bd}{ai:Int}{n:Nat}{b:Bool}{i:Int}{next:Goal}{kind:Int}{cq:Int}
include X
theorem Qe (ih:T1 P t F nc n){h:Goal}{g:aF} (hM:MS P t F m S st.steps) (hS:SP F ai st) (hb:base<=S.length)
  (hg:GR P g h) (hk:GK nc i st.steps h) (hi0:0<=i) (fD:i<=t.length) (hc:dj t c) (cZ:c.length=nc) (hr:bL t F (dO t F n) ai (.run h i c) st=some (b,st')):ic P t F nc base S ai i m ⟨i,c,g⟩ true st b st':=by
 have fW:=hS.s0;have eC:=hS.s1;have Uz:c.length<=1000000000:=by rw[cZ];exact X.nc
 have bW:∀gb,m.bW ⟨i,c,gb⟩:=λgb=>hM.bW (p:=⟨i,c,gb⟩) X.ht X.hF fW eC hi0 fD Uz;simp only[bL]at hr;rw[am (by omega)]at hr;have same:∀(task:Task),task.pos=i->task.ah=c->(∀rec,rec=dO t F n->rec ai task st=some (b,st'))->TR P task ⟨i,c,g⟩->TK nc st.steps task->ic P t F nc base S ai i m ⟨i,c,g⟩ true st b st':=by intro task hp vZ qy htr tG;have:=ih ai task st b st' (qy _ rfl) base S m _ hM hS hb htr tG (by rw[hp];exact hi0) (by rw[hp];exact fD) (by rw[vZ];exact hc) (by rw[vZ];exact cZ);rwa [hp]at this
 cases hg with
 |nil =>
  simp only at hr;split at hr
  case isFalse=>cases hr
  rename_i hlen;obtain⟨oV,MQ⟩:=hlen;simp only[adp,ad3]at hr;obtain⟨P1,rfl⟩:=hr;have R8:((st.ends++[i]).length:Int)=st.ends.length+1:=by simp
  cases b with
  |true =>
   simp only[adD,adC]at P1;have:=hS.ai P1.1;exact⟨[(i,c)],m,rfl,rfl,λr hr=>by rw[List.mem_singleton.1 hr];exact⟨ady _,fD,hc,cZ⟩,.refl m,ady _,.inr (.inl ⟨rfl,hS.empty,P1.1,by simp only[R8];omega,eC,[],[],i,c,by simpa using hM,rfl,.refl _ _ _⟩)⟩
  |false =>
   refine⟨[(i,c)],m,rfl,rfl,λr hr=>by rw[List.mem_singleton.1 hr];exact⟨ady _,fD,hc,cZ⟩,.refl m,ady _,.inl ⟨rfl,hS.empty,λhm=>?_,hM,eC,.zero,.emit hM.bU (.refl _ _ _)⟩⟩;have:=hS.ai hm;simp only[R8];by_cases hle:ai<=(st.ends.length:Int)+1
   ·rw[adu hm,adu hle]at P1;cases P1
   ·omega
 |@tree r re n0 a k f g0 h0 vY AU =>
  simp only at hr;rw[am (by decide),am (by decide),am (by decide),am (by decide)]at hr;obtain⟨k1,k2,k3,k4,k5,k6⟩:=hk;exact same (.node (.mk 0 re k f h0) i c) rfl rfl (λrec dp=>by rw[dp];exact hr) ⟨rfl,rfl,r,n0,a,g0,rfl,vY,AU⟩ ⟨k1 (by decide),k6⟩
 |@round r re zv n0 a f g0 h0 vY Uc AU =>
  simp only at hr;rw[ap trivial]at hr;obtain⟨k1,k2,k3,k4,k5,k6⟩:=hk;exact same (.rep (.mk 1 zv n0 f h0) i c) rfl rfl (λrec dp=>by rw[dp];exact hr) ⟨rfl,rfl,.inr ⟨(k2 (.inl rfl)).2.1,r,re,a,g0,rfl,vY,Uc,AU⟩⟩ ⟨k1 (by decide),(k2 (.inl rfl)).1,(k2 (.inl rfl)).2.2,k3 rfl,k6⟩
 |@more r re zv n0 a f g0 h0 vY Uc nq AU =>
  simp only at hr;rw[am (by decide),ap trivial,am (by omega)]at hr;split at hr
  ·cases hr
  obtain⟨k1,k2,k3,k4,k5,k6⟩:=hk;have:=k4 rfl;obtain⟨l1,l2,l3⟩:=k2 (.inr rfl);exact same (.run (.mk 1 zv (n0+1) 0 h0) i c) rfl rfl (λrec dp=>by rw[dp];exact hr) ⟨rfl,rfl,.round vY Uc AU⟩ ⟨λ_=>k1 (by decide),λ_=>⟨l1,l2,by omega⟩,λ_=>by omega,λh=>by omega,λh=>by omega,k6⟩
 |@Su r re zv n0 a g0 h0 vY Uc nq AU =>
  simp only at hr;rw[am (by decide),ap trivial]at hr;obtain⟨k1,k2,k3,k4,k5,k6⟩:=hk;have:=k4 rfl;have hF:=X.hF;obtain⟨l1,l2,l3⟩:=k2 (.inr rfl);have qu:=L5 (bW (.mk 3 r (n0+1) a g0)) (by omega) (by omega);by_cases q:i=a
  ·rw[ap ⟨nq,q⟩]at hr;rw[ap q]at qu;cases hr;exact ic.xX rfl qu (.refl m) (ic.no hM hS.empty hS.ai eC)
  ·rw[am (by omega)]at hr;rw[am q]at qu;split at hr
   ·cases hr
   refine ic.xX rfl qu (.refl m) ?_;exact ih ai _ st b st' hr base S m _ hM hS hb ⟨rfl,rfl,.round vY Uc AU⟩ ⟨λ_=>k1 (by decide),λ_=>⟨l1,l2,by omega⟩,λ_=>by omega,λh=>by omega,λh=>by omega,k6⟩ hi0 fD hc cZ
 |@cap r re a k g0 h0 vY AU =>
  simp only at hr;rw[am (by decide),am (by decide),ap trivial,am (by omega)]at hr;obtain⟨k1,k2,k3,k4,k5,k6⟩:=hk;obtain⟨o5,f0,f1⟩:=k5 rfl;obtain⟨⟨_,_,_,_,v5,_,_⟩,_⟩:=wZ (k1 (by decide));obtain⟨w1,w2⟩:=v5 (.inl o5);have hw:kD c re.n a i=c.set (re.n-1).toNat (a,i):=by unfold kD;rw[ap ⟨w1,by omega⟩]
  obtain⟨c1,c2⟩:=dj.with (n:=re.n) hc f0 f1 fD;rw[hw]at hr c1 c2;refine ic.xX rfl (Qq (bW _) (wx hM vY) w1 (by omega)) (.refl m) ?_;exact ih ai _ st b st' hr base S m _ hM hS hb ⟨rfl,rfl,AU⟩ k6 hi0 fD c1 (by show (c.set _ _).length=nc;rw[c2];exact cZ)
 |@N5 r re a k g0 h0 AU =>
  simp only at hr;rw[am (by decide),am (by decide),am (by decide),ap trivial]at hr;obtain⟨k1,k2,k3,k4,k5,k6⟩:=hk;have qu:=Jv (r:=r) (g:=g0) (a:=a) (bW _);by_cases q:i=a
  ·rw[ap q]at hr;rw[adu q]at qu;refine ic.xX rfl qu (.refl m) ?_;exact ih ai _ st b st' hr base S m _ hM hS hb ⟨rfl,rfl,AU⟩ k6 hi0 fD hc cZ
  ·rw[am q]at hr;rw[adl q]at qu;cases hr;exact ic.xX rfl qu (.refl m) (ic.no hM hS.empty hS.ai eC)
theorem Ra (ih:T1 P t F nc n){re:Re}{k:Int}{p:aw} (hM:MS P t F m S st.steps) (hS:SP F ai st) (hb:base<=S.length)
  (htr:TR P (.rep (.mk kind re k cq next) i c) p) (tG:TK nc st.steps (.rep (.mk kind re k cq next) i c)) (hi0:0<=i) (fD:i<=t.length) (hc:dj t c) (cZ:c.length=nc) (hr:lR F (dO t F n) ai re k next i c st=some (b,st')):ic P t F nc base S ai i m p true st b st':=by
 obtain⟨pa,pc,todo⟩:=p;obtain⟨rfl,rfl,htr⟩:=htr;obtain⟨v,o4,k0,k1,hk⟩:=tG;have fW:=hS.s0;have eC:=hS.s1;rcases htr with ⟨hm,r,n0,a,g,St,vY,AU⟩|⟨hm,r,P5,a,g,St,vY,Uc,AU⟩
 ·simp only at St;subst St;unfold lR at hr;rw[ap hm]at hr;have jd:=hM.bW (p:=⟨pa,pc,.mk 0 r n0 a g⟩) X.ht X.hF fW eC hi0 fD (by show pc.length<=_;rw[cZ];exact X.nc);have P2:(re.db 0).mode≠2:=by simp [Re.db,Re.mode]
  cases hf:bS (dO t F n) (.mk 1 (re.db 0) 0 0 .nil) pa pc st with
  |none=>rw[hf]at hr;cases hr
  |some y =>
   obtain⟨o,s2⟩:=y;rw[hf]at hr;simp only at hr;obtain⟨m2,rr,found,⟨kk,oG⟩,k2,k3,k4,k5,k6,k7⟩:=wC ih (gb:=.mk 2 r 0 0 .nil) hM hS.empty fW eC (.round vY (.inr ⟨hm,rfl⟩) .nil) ⟨λ_=>Ir v 0,λ_=>⟨o4,P2,ady _⟩,λ_=>fW,λh=>by omega,λh=>by omega,trivial⟩ hi0 fD hc cZ hf;have Sj:jV (λm base p=>bn kk true m base p true) m ⟨pa,pc,g⟩ (.mk 2 r 0 0 .nil)=some (m2,{ rr with todo:=g },found):=by unfold jV;rw[oG]
   obtain⟨⟨v1,v2,v3,v4,v5,v6,_⟩,Jh⟩:=wZ v;refine ic.xX rfl (mB jd (y:=(m2,{ rr with todo:=g },found)) ⟨kk,?_⟩) k2 (ic.oX (s0:=s2) ?_ (ady _) k5 k6 k4)
   ·unfold bq;rw[wx hM vY];simp only;rw[am (by omega),ap o4,ap hm];exact Sj
   have lW:0<=ai->(s2.ends.length:Int)<ai:=by rw[k5];exact hS.ai
   rcases k7 with ⟨j1,j2,j3,⟨rfl,e,d,rfl,rfl,l3,l4,l5,l6⟩|⟨rfl,rfl⟩⟩|⟨j1,j2,rfl,rfl⟩
   ·simp only at hr;have:=ih ai _ s2 b st' hr base S m2 ⟨e,d,g⟩ j2 ⟨j1,by omega,j3,lW⟩ hb ⟨rfl,rfl,AU⟩ (hk.mono l3 k4) (by show (0:Int)<=e;have:(0:Int)<=pa:=hi0;omega) l4 l5 l6;exact this.oX l3 rfl rfl (ady _)
   ·simp only at hr;cases hr;rw[j1];exact ic.no j2 j1 lW j3
   ·simp only at hr;cases hr;rw[j1];exact ic.out k3 j2 j1 lW rfl rfl (ady _)
 ·simp only at St;subst St;exact Q7 X ih hM hS hb vY Uc AU v o4 hm k0 k1 hk hi0 fD hc cZ hr
theorem OC (ih:T1 P t F nc n){re:Re}{k:Int}{p:aw} (hM:MS P t F m S st.steps) (hS:SP F ai st) (hb:base<=S.length)
  (htr:TR P (.node (.mk kind re k cq next) i c) p) (tG:TK nc st.steps (.node (.mk kind re k cq next) i c)) (hi0:0<=i) (fD:i<=t.length) (hc:dj t c) (cZ:c.length=nc) (hr:bL t F (dO t F n) ai (.node (.mk kind re k cq next) i c) st=some (b,st')):ic P t F nc base S ai i m p true st b st':=by
 obtain⟨pa,pc,todo⟩:=p;obtain⟨rfl,rfl,r,n0,a,g,St,vY,AU⟩:=htr;simp only at St;subst St;obtain⟨v,hk⟩:=tG;have fW:=hS.s0;have eC:=hS.s1;obtain⟨⟨v1,v2,v3,v4,v5,v6,_⟩,Jh⟩:=wZ v;have hF:=X.hF;simp only[bL]at hr;have hi0:0<=pa:=hi0;have fD:pa<=t.length:=fD;have hc:dj t pc:=hc;have cZ:pc.length=nc:=cZ;rw[am (by omega)]at hr;by_cases o4:re.op=4
 ·rw[ap o4]at hr;by_cases hm:re.mode=2
  ·exact ih ai _ st b st' hr base S m _ hM hS hb ⟨rfl,rfl,.inl ⟨hm,r,n0,a,g,rfl,vY,AU⟩⟩ ⟨v,o4,ady _,fW,hk⟩ hi0 fD hc cZ
  ·have jd:=hM.bW (p:=⟨pa,pc,.mk 0 r n0 a g⟩) X.ht X.hF fW eC hi0 fD (by show pc.length<=_;rw[cZ];exact X.nc);refine ic.xX rfl (mB jd (y:=(m,⟨pa,pc,.mk 2 r 0 0 g⟩,true)) ⟨0,?_⟩) (.refl m) ?_
   ·unfold bq;rw[wx hM vY];simp only;rw[am (by omega),ap o4,am hm];rfl
   ·exact ih ai _ st b st' hr base S m _ hM hS hb ⟨rfl,rfl,.inr ⟨hm,r,re,0,g,rfl,vY,.inl ⟨rfl,hm⟩,AU⟩⟩ ⟨v,o4,ady _,fW,hk⟩ hi0 fD hc cZ
 ·rw[am o4,am (by rw[cZ];have:=X.nc;omega),am (by omega)]at hr;exact Ny X ih hM hS hb vY AU v o4 hk hi0 fD hc cZ hr
theorem Kk:∀n,T1 P t F nc n
 |0=>λ_ _ _ _ _ h=>by cases h
 |n+1=>λai task st b st' h base S m p hM hS hb htr tG hi0 fD hc cZ=>by
  have ih:=Kk n;have h:bL t F (dO t F n) ai task st=some (b,st'):=h;cases task with
  |run g i c =>
   obtain⟨pa,pc,todo⟩:=p;obtain⟨rfl,rfl,hg⟩:=htr;exact Qe X ih hM hS hb hg tG hi0 fD hc cZ h
  |rep g i c =>
   cases g with
   |nil=>exact htr.elim
   |mk kind re k cq next =>
    refine Ra X ih hM hS hb htr tG hi0 fD hc cZ ?_;simp only[bL]at h;rw[am (by have h1:0<=i:=hi0;have h2:i<=t.length:=fD;omega)]at h;exact h
  |node g i c =>
   cases g with
   |nil=>exact htr.elim
   |mk kind re k cq next=>exact OC X ih hM hS hb htr tG hi0 fD hc cZ h
end all
end Go.Proofs.Ytphfjhaffbfpfaa
