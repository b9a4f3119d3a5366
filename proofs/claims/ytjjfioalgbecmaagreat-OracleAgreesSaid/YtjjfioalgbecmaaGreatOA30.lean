/- A part of the proof. -/
import Derived.Test.YtjjfioalgbecmaaGreatOA29
set_option linter.unusedSimpArgs false
set_option linter.unusedVariables false
open Nat renaming reduceShiftRight → qa, reduceMod → qe, reduceEqDiff → Fp, reduceBEq → Ft
open Int renaming reduceEq → FD, reduceNatCast' → FF
set_option maxRecDepth 100000
set_option maxHeartbeats 80000000
namespace Go.Proofs.YtjjfioalgbecmaaGreat
open Go.VL Go.Proofs.Tryz
variable{m:aP}{x:Rs}{p:aB}{rec:Rec}
structure aP.Fr (m m':aP):Prop where
 p:m'.p=m.p
 t:m'.t=m.t
 dS:m'.dS=m.dS
 own:m'.own=m.own
 nU:m'.nU=m.nU
 start:m'.start=m.start
 fuel:m'.fuel=m.fuel
 ready:m'.ready=m.ready
theorem aP.Fr.refl (m:aP):m.Fr m:=⟨rfl,rfl,rfl,rfl,rfl,rfl,rfl,rfl⟩
theorem aP.Fr.trans {m1 m2:aP} (h:m.Fr m1) (k:m1.Fr m2):m.Fr m2 :=
 ⟨k.p.trans h.p,k.t.trans h.t,k.dS.trans h.dS,k.own.trans h.own,k.nU.trans h.nU,k.start.trans h.start,k.fuel.trans h.fuel,k.ready.trans h.ready⟩
theorem aP.ID (m:aP):m.Fr m.step:=by unfold aP.step;split <;> exact⟨rfl,rfl,rfl,rfl,rfl,rfl,rfl,rfl⟩
theorem aP.Dd (m:aP) (p:aB):m.Fr (m.push p):=⟨rfl,rfl,rfl,rfl,rfl,rfl,rfl,rfl⟩
theorem aP.yX (m:aP) (n:Nat):m.Fr (m.clear n):=⟨rfl,rfl,rfl,rfl,rfl,rfl,rfl,rfl⟩
theorem aP.N5 (m:aP):m.Fr m.pop:=⟨rfl,rfl,rfl,rfl,rfl,rfl,rfl,rfl⟩
theorem E8 (h:∀m base p x,rec m base p=some x->m.Fr x.1) (hx:ja rec m p=some x):m.Fr x.1:=by
 unfold ja at hx;split at hx
 ·cases hx
 ·rename_i m1 p1 f h1;split at hx
  ·cases hx
  ·cases hx;exact(h _ _ _ _ h1).trans (aP.yX _ _)
theorem L1 (h:∀m base p x,rec m base p=some x->m.Fr x.1){part:bt} (hx:my rec m p part=some x):m.Fr x.1:=by
 unfold my at hx;split at hx
 ·cases hx
 ·rename_i m1 p1 f h1;cases hx;have:=E8 h h1;exact this
theorem OU {f:Int->aP->Option Rs} (h:∀k m x,f k m=some x->m.Fr x.1) {neg:Bool}{p:aB}{last:Int}:∀(j:Nat) (m:aP) (x:Rs),mM f neg p last j m=some x->m.Fr x.1
 |0,m,x,hx=>by simp only[mM]at hx;cases hx;exact .refl _
 |j+1,m,x,hx=>by
  simp only[mM]at hx;split at hx
  ·cases hx;exact .refl _
  ·split at hx
   ·cases hx
   ·rename_i m1 r found h1;split at hx
    ·split at hx
     ·cases hx;have:=h _ _ _ h1;exact this
     ·cases hx;have:=h _ _ _ h1;exact this
    ·exact(h _ _ _ h1).trans (OU h j m1 x hx)
theorem Um (h:∀m base p x,rec m base p=some x->m.Fr x.1){r:bQ} (hx:kS rec m r p=some x):m.Fr x.1:=by
 have hs:=aP.ID m;unfold kS at hx;split at hx
 ·cases hx
 rename_i re rk;simp only at hx;by_cases c0:1000000000<re.set.length\/1000000000<re.kids.length
 ·rw[be c0]at hx;cases hx
 rw[ap c0]at hx;by_cases c4:re.op=4
 ·rw[be c4]at hx;split at hx
  ·exact L1 h hx
  ·cases hx;exact .refl _
 rw[ap c4]at hx;by_cases cf:m.fuel<=m.steps
 ·rw[be cf]at hx;cases hx;exact hs
 rw[ap cf]at hx;by_cases c1:re.op=1
 ·rw[be c1]at hx;cases hx;exact hs
 rw[ap c1]at hx;by_cases c2:re.op=2
 ·rw[be c2]at hx;cases hx;exact hs
 rw[ap c2]at hx;by_cases c3:re.op=3
 ·rw[be c3]at hx;cases hx;exact hs
 rw[ap c3]at hx;by_cases c5:re.op=5
 ·rw[be c5]at hx;exact Zcf
 rw[ap c5]at hx;by_cases c6:re.op=6
 ·rw[be c6]at hx;exact Zcf
 rw[ap c6]at hx;by_cases c7:re.op=7\/re.op=8
 ·rw[be c7]at hx;split at hx
  ·cases hx
  ·unfold qq at hx;exact hs.trans (OU (λ_ _ _ h1=>E8 h h1) _ _ _ hx)
 rw[ap c7]at hx;by_cases c9:re.op=9
 ·rw[be c9]at hx;split at hx
  ·cases hx
  ·exact hs.trans (L1 h hx)
 rw[ap c9]at hx;by_cases c10:re.op=10
 ·rw[be c10]at hx;split at hx
  ·exact Zcf
  ·cases hx
 rw[ap c10]at hx;split at hx
 ·exact Zcf
 ·cases hx;exact hs
theorem TA{r:bQ}{n:Int} (hx:sE m r n p=some x):m.Fr x.1:=by
 have hs:=aP.ID m;unfold sE at hx;simp only at hx
 repeat' (first
  |(cases hx;done)
  |(cases hx;exact hs)
  |(cases hx;exact hs.trans (aP.Dd _ _))
  |split at hx)
theorem Zl (h:∀m base p x,rec m base p=some x->m.Fr x.1) (hx:vf rec m p=some x):m.Fr x.1:=by
 unfold vf at hx;split at hx
 ·cases hx
 split at hx
 ·cases hx
 simp only at hx
 repeat' (first
  |(cases hx;done)
  |(cases hx;exact .refl _)
  |exact Um h hx
  |exact TA hx
  |(cases hx;split;exact aP.Dd _ _;exact .refl _)
  |split at hx)
theorem zG:∀(k:Nat) (out:Bool) (m:aP) (base:Nat) (p:aB) (alive:Bool) (x:Rs),cL k out m base p alive=some x->m.Fr x.1
 |0,_,_,_,_,_,_,hx=>by cases hx
 |k+1,out,m,base,p,alive,x,hx=>by
  simp only[cL]at hx;split at hx
  ·cases hx;exact .refl _
  split at hx
  ·split at hx
   ·cases hx
   ·rename_i m1 p1 a1 h1;exact(Zl (λm base p x h=>zG k true m base p true x h) h1).trans (zG k false m1 base p1 a1 x hx)
  split at hx
  ·cases hx;exact .refl _
  split at hx
  ·cases hx;exact .refl _
  split at hx
  ·cases hx
  split at hx
  ·cases hx
  ·cases hx
  ·rename_i last _;exact m.N5.trans (zG k true m.pop base last true x hx)
section mono
variable {rec rec':Rec} (h:∀m base p x,rec m base p=some x->rec' m base p=some x)
variable{m:aP}{x:Rs}{p:aB}
include h
theorem qL (hx:ja rec m p=some x):ja rec' m p=some x:=by
 unfold ja at hx ⊢;cases hr:rec m m.top p with
 |none=>rw[hr]at hx;cases hx
 |some y=>rw[hr]at hx;rw[h _ _ _ _ hr];exact hx
theorem BX{part:bt} (hx:my rec m p part=some x):my rec' m p part=some x:=by
 unfold my at hx ⊢;cases hr:ja rec m { p with todo:=part } with
 |none=>rw[hr]at hx;cases hx
 |some y=>rw[hr]at hx;rw[qL h hr];exact hx
omit h in
theorem xU {f f':Int->aP->Option Rs} (hf:∀k m x,f k m=some x->f' k m=some x) {neg:Bool}{p:aB}{last:Int}:∀(j:Nat) (m:aP) (x:Rs),mM f neg p last j m=some x->mM f' neg p last j m=some x
 |0,_,_,hx=>hx
 |j+1,m,x,hx=>by
  simp only[mM]at hx ⊢;by_cases hs:m.cz=true
  ·rw[be hs]at hx ⊢;exact hx
  ·rw[ap hs]at hx ⊢;cases hr:f (last+j) m with
   |none=>rw[hr]at hx;cases hx
   |some y =>
    rw[hr]at hx;rw[hf _ _ _ hr];obtain⟨m1,r,found⟩:=y;simp only at hx ⊢;cases found with
    |true=>exact hx
    |false =>
     simp only[alk,if_false]at hx ⊢;exact xU hf j m1 x hx
theorem Lk{r:bQ} (hx:kS rec m r p=some x):kS rec' m r p=some x:=by
 unfold kS at hx ⊢;cases hl:m.lit r with
 |none=>rw[hl]at hx;cases hx
 |some re =>
  rw[hl]at hx;simp only at hx ⊢;by_cases c0:1000000000<re.set.length\/1000000000<re.kids.length
  ·rw[be c0]at hx;cases hx
  rw[ap c0]at hx ⊢;by_cases c4:re.op=4
  ·rw[be c4]at hx ⊢;by_cases cm:re.mode=2
   ·rw[be cm]at hx ⊢;exact BX h hx
   ·rw[ap cm]at hx ⊢;exact hx
  rw[ap c4]at hx ⊢;by_cases cf:m.fuel<=m.steps
  ·rw[be cf]at hx ⊢;exact hx
  rw[ap cf]at hx ⊢;by_cases c1:re.op=1
  ·rw[be c1]at hx ⊢;exact hx
  rw[ap c1]at hx ⊢;by_cases c2:re.op=2
  ·rw[be c2]at hx ⊢;exact hx
  rw[ap c2]at hx ⊢;by_cases c3:re.op=3
  ·rw[be c3]at hx ⊢;exact hx
  rw[ap c3]at hx ⊢;by_cases c5:re.op=5
  ·rw[be c5]at hx ⊢;exact hx
  rw[ap c5]at hx ⊢;by_cases c6:re.op=6
  ·rw[be c6]at hx ⊢;exact hx
  rw[ap c6]at hx ⊢;by_cases c7:re.op=7\/re.op=8
  ·rw[be c7]at hx ⊢;cases hk:re.kids with
   |nil=>rw[hk]at hx;cases hx
   |cons aJ l =>
    rw[hk]at hx;simp only at hx ⊢;unfold qq at hx ⊢;exact xU (λk m x hx=>qL h hx) _ _ _ hx
  rw[ap c7]at hx ⊢;by_cases c9:re.op=9
  ·rw[be c9]at hx ⊢;cases hk:re.kids with
   |nil=>rw[hk]at hx;cases hx
   |cons aJ l =>
    rw[hk]at hx;exact BX h hx
  rw[ap c9]at hx ⊢;exact hx
theorem Is (hx:vf rec m p=some x):vf rec' m p=some x:=by
 unfold vf at hx ⊢;by_cases c:m.gF p
 ·rw[ap (by simpa using c)]at hx ⊢;obtain⟨pa,pc,todo⟩:=p;cases todo with
  |nil=>cases hx
  |mk kind r n at_ next =>
   simp only at hx ⊢;by_cases k0:kind=0
   ·rw[be k0]at hx ⊢;exact Lk h hx
   ·rw[ap k0]at hx ⊢;exact hx
 ·rw[be (by simpa using c)]at hx;cases hx
end mono
variable{m:aP}{p:aB}{base:Nat}{x:Rs}{S:List aB}{q:aB}{S':List aB}{a:Bool}{R:List (Int×aC)}{s:Int}{s':Int}{F:Int}{P:Re}{t:List Int}
theorem tF:∀(k:Nat) (out:Bool) (m:aP) (base:Nat) (p:aB) (alive:Bool) (x:Rs),cL k out m base p alive=some x->cL (k+1) out m base p alive=some x
 |0,_,_,_,_,_,_,hx=>by cases hx
 |k+1,out,m,base,p,alive,x,hx=>by
  rw[cL.eq_2]at hx ⊢;by_cases c1:out=true/\m.cz=true
  ·rw[be c1]at hx ⊢;exact hx
  rw[ap c1]at hx ⊢;by_cases c2:alive=true/\p.goals=true
  ·rw[be c2]at hx ⊢;cases hr:vf (λm base p=>cL k true m base p true) m p with
   |none=>rw[hr]at hx;cases hx
   |some y =>
    rw[hr]at hx;rw[Is (rec':=λm base p=>cL (k+1) true m base p true) (λm base p x hx=>tF k true m base p true x hx) hr];obtain⟨m1,p1,a1⟩:=y;exact tF k false m1 base p1 a1 x hx
  rw[ap c2]at hx ⊢;by_cases c3:alive=true
  ·rw[be c3]at hx ⊢;exact hx
  rw[ap c3]at hx ⊢;by_cases c4:m.top=base
  ·rw[be c4]at hx ⊢;exact hx
  rw[ap c4]at hx ⊢;by_cases c5:m.top=0\/m.iq.length<m.top\/1200000000000<m.top
  ·rw[be c5]at hx;cases hx
  rw[ap c5]at hx ⊢;cases hl:m.iq[m.top-1]? with
  |none=>rw[hl]at hx;cases hx
  |some o =>
   rw[hl]at hx;cases o with
   |none=>cases hx
   |some last=>exact tF k true m.pop base last true x hx
theorem ts {k k':Nat} (hk:k<=k') {out:Bool}{alive:Bool} (hx:cL k out m base p alive=some x):cL k' out m base p alive=some x:=by
 induction hk with
 |refl=>exact hx
 |step _ ih=>exact tF _ _ _ _ _ _ _ ih
def Ev (m:aP) (base:Nat) (p:aB) (alive:Bool) (x:Rs):Prop:=∃k,cL k false m base p alive=some x
def W4 (m:aP) (p:aB) (x:Rs):Prop:=∃k,vf (λm base p=>cL k true m base p true) m p=some x
theorem aaa{y:Rs} (hg:p.goals=true) (ha:W4 m p y) (he:Ev y.1 base y.2.1 y.2.2 x):Ev m base p true x:=by obtain⟨k1,h1⟩:=ha;obtain⟨k2,h2⟩:=he;refine⟨max k1 k2+1,?_⟩;simp only[cL];rw[ap (λh=>by cases h.1),be ⟨trivial,hg⟩,Is (rec':=λm base p=>cL (max k1 k2) true m base p true) (λm base p x hx=>ts (amA _ _) hx) h1];exact ts (amy _ _) h2
theorem MX (hg:p.goals=false):Ev m base p true (m,p,!m.cz):=by refine⟨1,?_⟩;simp only[cL];rw[ap (λh=>by cases h.1),ap (λh=>by rw[hg]at h;cases h.2),be trivial]
theorem C0 (hb:m.top=base):Ev m base p false (m,.zero,false):=by refine⟨1,?_⟩;simp only[cL];rw[ap (λh=>by cases h.1),ap (λh=>by cases h.1),ap (λh=>by cases h),be hb]
def A6 (m:aP) (S:List aB):Prop:=m.iq.take m.top=S.map some/\m.top=S.length/\m.top<=1200000000000
theorem A6.len (h:A6 m S):m.top<=m.iq.length:=by have:=congrArg List.length h.1;rw[alM,ak4,<- h.2.1]at this;omega
theorem A6.last (h:A6 m (S++[q])):m.iq[m.top-1]?=some (some q)/\A6 m.pop S:=by
 have hl:=h.len;have ht:m.top=S.length+1:=by rw[h.2.1];simp
 have hg:(m.iq.take m.top)[m.top-1]?=some (some q):=by rw[h.1,ht];simp
 refine⟨by rw[List.getElem?_take]at hg;rwa [be ae]at hg,?_,?_,?_⟩
 ·show (m.iq.set (m.top-1) none).take (m.top-1)=S.map some;rw[List.take_set_of_le (ale _)];have:m.iq.take (m.top-1)=(m.iq.take m.top).take (m.top-1):=by rw[List.take_take];congr 1;omega
  rw[this,h.1,ht];simp
 ·show m.top-1=S.length;omega
 ·show m.top-1<=1200000000000;have:=h.2.2;omega
theorem A6.push (h:A6 m S) (q:aB) (hl:S.length+1<=1200000000000):A6 (m.push q) (S++[q]):=by
 refine⟨?_,?_,?_⟩
 ·show (m.iq.take m.top++[some q]).take (m.top+1)=_;rw[h.1,aln (by rw[ald,ak4,h.2.1];simp)];simp
 ·show m.top+1=_;rw[h.2.1];simp
 ·show m.top+1<=_;rw[h.2.1];exact hl
theorem A6.clear (h:A6 m (S++S')):A6 (m.clear S.length) S:=by
 have hl:=h.len;have ht:=h.2.1;rw[ald]at ht;refine⟨?_,rfl,?_⟩
 ·show (m.iq.take S.length++(List.replicate (m.top-S.length) none++m.iq.drop m.top)).take S.length=_;rw[List.take_append_of_le_length (by rw[alM];omega),List.take_take,Nat.min_self];have:m.iq.take S.length=(m.iq.take m.top).take S.length:=by rw[List.take_take];congr 1;omega
  rw[this,h.1];simp
 ·show S.length<=_;have:=h.2.2;omega
theorem aaW (hS:A6 m (S++[q])) (hb:base<=S.length) (hs:m.cz=false) (he:Ev m.pop base q true x):Ev m base p false x:=by
 obtain⟨k,hk⟩:=he;have hl:=hS.len;have ht:m.top=S.length+1:=by rw[hS.2.1];simp
 refine⟨k+1,?_⟩;simp only[cL];rw[ap (λh=>by cases h.1),ap (λh=>by cases h.1),ap (λh=>by cases h),bm,ap (by have:=hS.2.2;omega),hS.last.1];simp only;have:cL k true m.pop base q true=cL k false m.pop base q true:=by
  cases k with
  |zero=>rfl
  |succ k =>
   rw[cL.eq_2,cL.eq_2];rw[ap (show ¬(true=true/\m.pop.cz=true) from λh=>by have h2:=h.2;rw[show m.pop.cz=false from hs]at h2;cases h2),ap (show ¬(false=true/\m.pop.cz=true) from λh=>by cases h.1)]
 rw[this];exact hk
inductive u9 (base:Nat):aP->aB->Bool->List (Int×aC)->aP->aB->Bool->Prop where
 |refl (m:aP) (p:aB) (al:Bool):u9 base m p al [] m p al
 |Cr {m:aP}{p:aB}{m1:aP}{p1:aB}{al1:Bool}{R:List (Int×aC)}{m':aP}{p':aB}{Ww:Bool} (hg:p.goals=true) (ha:W4 m p (m1,p1,al1)) (h:u9 base m1 p1 al1 R m' p' Ww):u9 base m p true R m' p' Ww
 |pop {m:aP}{p q:aB}{S:List aB}{R:List (Int×aC)}{m':aP}{p':aB}{Ww:Bool} (hS:A6 m (S++[q])) (hb:base<=S.length) (hs:m.cz=false) (h:u9 base m.pop q true R m' p' Ww):u9 base m p false R m' p' Ww
 |emit {m:aP}{i:Int}{c:aC}{R:List (Int×aC)}{m':aP}{p':aB}{Ww:Bool} (hs:m.cz=false) (h:u9 base m .zero false R m' p' Ww):u9 base m ⟨i,c,.nil⟩ true ((i,c)::R) m' p' Ww
theorem u9.trans{m1 m2:aP}{p1 p2:aB}{a1 a2:Bool}{R':List (Int×aC)} (h:u9 base m p a R m1 p1 a1) (k:u9 base m1 p1 a1 R' m2 p2 a2):u9 base m p a (R++R') m2 p2 a2:=by
 induction h with
 |refl=>exact k
 |Cr hg ha _ ih=>exact .Cr hg ha (ih k)
 |pop hS hb hs _ ih=>exact .pop hS hb hs (ih k)
 |emit hs _ ih=>exact .emit hs (ih k)
theorem vN{m':aP}{p':aB}{a':Bool} (h:u9 base m p a R m' p' a') (hR:R=[]) (he:Ev m' base p' a' x):Ev m base p a x:=by
 induction h with
 |refl=>exact he
 |Cr hg ha _ ih=>exact aaa hg ha (ih hR he)
 |pop hS hb hs _ ih=>exact aaW hS hb hs (ih hR he)
 |emit=>cases hR
def Cv (P:Re):bQ->Option Re
 |.nil=>none
 |.root=>some P
 |.el re=>some re
def RT (re G8:Re):Prop:=(G8=re/\re.mode≠2)\/(re.mode=2/\G8=re.dJ 0)
inductive GR (P:Re):bt->Goal->Prop where
 |nil:GR P .nil .nil
 |tree {r:bQ}{re:Re}{n a k f:Int}{g:bt}{h:Goal} (hr:Cv P r=some re) (hg:GR P g h):GR P (.mk 0 r n a g) (.mk 0 re k f h)
 |round {r:bQ}{re G8:Re}{n a f:Int}{g:bt}{h:Goal} (hr:Cv P r=some re) (ht:RT re G8) (hg:GR P g h):GR P (.mk 2 r n a g) (.mk 1 G8 n f h)
 |more {r:bQ}{re G8:Re}{n a f:Int}{g:bt}{h:Goal} (hr:Cv P r=some re) (ht:RT re G8) (hn:n<G8.mn) (hg:GR P g h):GR P (.mk 2 r (n+1) a g) (.mk 2 G8 n f h)
 |Yc {r:bQ}{re G8:Re}{n a:Int}{g:bt}{h:Goal} (hr:Cv P r=some re) (ht:RT re G8) (hn:G8.mn<=n) (hg:GR P g h):GR P (.mk 3 r (n+1) a g) (.mk 2 G8 n a h)
 |cap {r:bQ}{re:Re}{a k:Int}{g:bt}{h:Goal} (hr:Cv P r=some re) (hg:GR P g h):GR P (.mk 4 r 0 a g) (.mk 3 re k a h)
 |Vt {r:bQ}{re:Re}{a k:Int}{g:bt}{h:Goal} (hg:GR P g h):GR P (.mk 5 r 0 a g) (.mk 4 re k a h)
def vB (nc:Int) (re:Re):Bool:=decide ((re.op=3\/re.op=4\/re.op=5\/re.op=7\/re.op=8\/re.op=9->re.kids≠[])/\(re.op=10->2<=re.kids.length)/\re.set.length<=1000000000/\re.kids.length<=1000000000 /\
 (re.op=5\/re.op=6\/re.op=10->1<=re.n/\re.n<=nc)/\(re.op=11->0<=re.n/\re.n<=5)/\(re.op=4->-1<=re.mx))
def GK (nc i s:Int):Goal->Prop
 |.nil=>True
 |.mk kind re k fi next=>(kind≠4->re.every (vB nc)=true)/\(kind=1\/kind=2->re.op=4/\re.mode≠2/\0<=k)/\(kind=1->k<=s)/\(kind=2->k<s)/\(kind=3->re.op=5/\0<=fi/\fi<=i)/\GK nc i s next
theorem GK.mono {nc i i':Int} (hi:i<=i') (hs:s<=s'):∀{g:Goal},GK nc i s g->GK nc i' s' g
 |.nil,_=>trivial
 |.mk _ _ _ _ _,h=>by obtain⟨h1,h2,h3,h4,h5,h6⟩:=h;exact⟨h1,h2,λk=>by have:=h3 k;omega,λk=>by have:=h4 k;omega,λk=>by have:=h5 k;exact⟨this.1,ae⟩,h6.mono hi hs⟩
structure MS (P:Re) (t:List Int) (F:Int) (m:aP) (S:List aB) (s:Int):Prop where
 p:m.p.re=P
 t:m.t=t
 fuel:m.fuel=F
 same:m.same
 iq:A6 m S
 steps:m.steps=s
 cz:m.cz=false
 room:(S.length:Int)<=s
structure Po (m m':aP):Prop where
 fr:m.Fr m'
 steps:m.steps<=m'.steps
 YI:m.cS<=m'.cS
 XX:m'.cS<=max m.cS m'.steps
 bM:m.steps<=m.fuel->m'.steps<=m'.fuel
theorem Po.refl (m:aP):Po m m:=⟨.refl m,alj _,alj _,ae,λh=>h⟩
theorem Po.trans {m1 m2:aP} (h:Po m m1) (k:Po m1 m2):Po m m2:=by obtain⟨a1,a2,a3,a4,a5⟩:=h;obtain⟨b1,b2,b3,b4,b5⟩:=k;exact⟨a1.trans b1,ae,ae,ae,λhh=>b5 (a5 hh)⟩
theorem MS.fr{m':aP} (h:MS P t F m S s) (hf:m.Fr m') (hS:A6 m' S') (hs:m'.steps=s') (hp:m'.cz=false) (hr:(S'.length:Int)<=s'):MS P t F m' S' s' :=
 ⟨by rw[hf.p];exact h.p,by rw[hf.t];exact h.t,by rw[hf.fuel];exact h.fuel,λho=>by rw[hf.own,hf.t];exact h.same (by rw[<- hf.dS];exact ho),hS,hs,hp,hr⟩
theorem MS.pop (h:MS P t F m (S++[q]) s):MS P t F m.pop S s :=
 h.fr m.N5 h.iq.last.2 h.steps h.cz (by have:=h.room;rw[ald]at this;simp at this;omega)
theorem Oj (m:aP):Po m m.pop:=⟨m.N5,alj _,alj _,by show m.cS<=max m.cS m.steps;omega,λh=>h⟩
theorem MS.gF (h:MS P t F m S s) (ht:t.length<=1000000) (hF:F<=1200000000000) (h0:0<=s) (h1:s<=F) (hi0:0<=p.at_) (ic:p.at_<=t.length) (hc:p.aj.length<=1000000000):m.gF p:=by refine⟨⟨by rw[h.steps];exact h0,by rw[h.steps];omega,h.iq.len,h.iq.2.2⟩,⟨hi0,by rw[h.t];exact ic,hc⟩,by rw[h.t];exact ht,h.same⟩
def jI (P:Re) (t:List Int) (F:Int) (nc:Nat) (base:Nat) (S:List aB) (ai i:Int) (m:aP) (p:aB) (al:Bool) (st:bE) (b:Bool) (st':bE):Prop :=
 ∃(R:List (Int×aC)) (m':aP),st'.ends=st.ends++R.map Prod.fst/\st'.aj=st.aj++R.map Prod.snd/\(∀r∈R,i<=r.1/\r.1<=t.length/\dz t r.2/\r.2.length=nc)/\Po m m'/\st.steps<=st'.steps /\
  ((b=false/\st'.empty=false/\(0<=ai->(st'.ends.length:Int)<ai)/\MS P t F m' S st'.steps/\st'.steps<=F/\∃p',u9 base m p al R m' p' false) \/
   (b=true/\st'.empty=false/\0<=ai/\(st'.ends.length:Int)=ai/\st'.steps<=F/\∃(S':List aB) (R0:List (Int×aC)) (e:Int) (d:aC),MS P t F m' (S++S') st'.steps/\R=R0++[(e,d)]/\u9 base m p al R0 m' ⟨e,d,.nil⟩ true) \/
   (b=true/\st'.empty=true/\(0<=ai->(st'.ends.length:Int)<ai)/\m'.cz=true/\∃(p':aB) (S':List aB),A6 m' (S++S')/\u9 base m p al R m' p' false))
section con
variable {P:Re}{t:List Int}{F:Int}{nc base:Nat}{S:List aB}{ai i:Int}{m:aP}{p:aB}{st st':bE}{b:Bool}
theorem jI.Cr {m1:aP}{p1:aB}{al1:Bool} (hg:p.goals=true) (ha:W4 m p (m1,p1,al1)) (hp:Po m m1) (h:jI P t F nc base S ai i m1 p1 al1 st b st'):jI P t F nc base S ai i m p true st b st':=by
 obtain⟨R,m',h1,h2,h3,h4,h5,h6⟩:=h;refine⟨R,m',h1,h2,h3,hp.trans h4,h5,?_⟩;rcases h6 with ⟨k1,k2,k3,k4,kF,p',k5⟩|⟨k1,k2,k3,k4,kF,S',R0,e,d,k5,k6,k7⟩|⟨k1,k2,k3,k4,p',S',k5,k6⟩
 ·exact .inl ⟨k1,k2,k3,k4,kF,p',.Cr hg ha k5⟩
 ·exact .inr (.inl ⟨k1,k2,k3,k4,kF,S',R0,e,d,k5,k6,.Cr hg ha k7⟩)
 ·exact .inr (.inr ⟨k1,k2,k3,k4,p',S',k5,.Cr hg ha k6⟩)
theorem jI.qd {al:Bool}{i':Int}{s0:bE} (h:jI P t F nc base S ai i' m p al s0 b st') (hi:i<=i') (h1:s0.ends=st.ends) (h2:s0.aj=st.aj) (h3:st.steps<=s0.steps):jI P t F nc base S ai i m p al st b st':=by obtain⟨R,m',k1,k2,k3,k4,k5,k6⟩:=h;exact⟨R,m',by rw[k1,h1],by rw[k2,h2],λr hr=>by have:=k3 r hr;exact⟨ae,this.2⟩,k4,ae,k6⟩
theorem jI.no (hM:MS P t F m S st.steps) (he:st.empty=false) (hm:0<=ai->(st.ends.length:Int)<ai) (hF:st.steps<=F):jI P t F nc base S ai i m p false st false st :=
 ⟨[],m,aq,aq,aq,.refl m,alj _,.inl ⟨rfl,he,hm,hM,hF,p,.refl m p false⟩⟩
theorem jI.out {s1:bE} (hS:A6 m S) (hs:m.cz=true) (he:s1.empty=true) (hm:0<=ai->(st.ends.length:Int)<ai) (h1:s1.ends=st.ends) (h2:s1.aj=st.aj) (h3:st.steps<=s1.steps):jI P t F nc base S ai i m p false st true s1 :=
 ⟨[],m,by simp [h1],by simp [h2],aq,.refl m,h3,.inr (.inr ⟨rfl,he,by rw[h1];exact hm,hs,p,[],by simpa using hS,.refl m p false⟩)⟩
theorem jI.or {q:aB}{al b1:Bool}{s2:bE} (hb:base<=S.length) (h:jI P t F nc base (S++[q]) ai i m p al st b1 s2) (ht:b1=true->b=true/\st'=s2)
  (hf:b1=false->∀m2,m.Fr m2->MS P t F m2 (S++[q]) s2.steps->s2.empty=false->s2.steps<=F->(0<=ai->(s2.ends.length:Int)<ai)->st.steps<=s2.steps->jI P t F nc base S ai i m2.pop q true s2 b st'):jI P t F nc base S ai i m p al st b st':=by
 obtain⟨R,m',h1,h2,h3,h4,h5,h6⟩:=h;rcases h6 with ⟨k1,k2,k3,k4,kF,p',k5⟩|⟨k1,k2,k3,k4,kF,S',R0,e,d,k5,k6,k7⟩|⟨k1,k2,k3,k4,p',S',k5,k6⟩
 ·obtain⟨R',m2,j1,j2,j3,j4,j5,j6⟩:=hf k1 m' h4.fr k4 k2 kF k3 h5;have dU:∀{R'' m'' p'' ab8},u9 base m'.pop q true R'' m'' p'' ab8->u9 base m p al (R++R'') m'' p'' ab8:=λhr=>k5.trans (.pop k4.iq hb k4.cz hr);refine⟨R++R',m2,by rw[j1,h1];simp,by rw[j2,h2];simp,λr hr=>?_,h4.trans ((Oj m').trans j4),ae,?_⟩
  ·rcases List.mem_append.1 hr with hr|hr
   ·exact h3 r hr
   ·exact j3 r hr
  ·rcases j6 with ⟨l1,l2,l3,l4,lF,p'',l5⟩|⟨l1,l2,l3,l4,lF,S',R0,e,d,l5,l6,l7⟩|⟨l1,l2,l3,l4,p'',S',l5,l6⟩
   ·exact .inl ⟨l1,l2,l3,l4,lF,p'',dU l5⟩
   ·exact .inr (.inl ⟨l1,l2,l3,l4,lF,S',R++R0,e,d,l5,by rw[l6,alx],dU l7⟩)
   ·exact .inr (.inr ⟨l1,l2,l3,l4,p'',S',l5,dU l6⟩)
 ·obtain⟨rfl,rfl⟩:=ht k1;exact⟨R,m',h1,h2,h3,h4,h5,.inr (.inl ⟨rfl,k2,k3,k4,kF,q::S',R0,e,d,by simpa using k5,k6,k7⟩)⟩
 ·obtain⟨rfl,rfl⟩:=ht k1;exact⟨R,m',h1,h2,h3,h4,h5,.inr (.inr ⟨rfl,k2,k3,k4,p',q::S',by simpa using k5,k6⟩)⟩
end con
variable{m:aP}{s:Int}{F:Int}{P:Re}{S:List aB}{t:List Int}
def TR (P:Re):Task->aB->Prop
 |.run h i c,p=>p.at_=i/\p.aj=c/\GR P p.todo h
 |.node (.mk _ re _ _ h) i c,p=>p.at_=i/\p.aj=c/\∃r n a g,p.todo=.mk 0 r n a g/\Cv P r=some re/\GR P g h
 |.node .nil _ _,_=>False
 |.rep (.mk _ re k _ h) i c,p=>p.at_=i/\p.aj=c/\((re.mode=2/\∃r n a g,p.todo=.mk 0 r n a g/\Cv P r=some re/\GR P g h)\/(re.mode≠2/\∃r Q5 a g,p.todo=.mk 2 r k a g/\Cv P r=some Q5/\RT Q5 re/\GR P g h))
 |.rep .nil _ _,_=>False
def TK (nc s:Int):Task->Prop
 |.run h i _=>GK nc i s h
 |.node (.mk _ re _ _ h) i _=>re.every (vB nc)=true/\GK nc i s h
 |.node .nil _ _=>False
 |.rep (.mk _ re k _ h) i _=>re.every (vB nc)=true/\re.op=4/\0<=k/\k<=s/\GK nc i s h
 |.rep .nil _ _=>False
structure SP (F ai:Int) (st:bE):Prop where
 empty:st.empty=false
 s0:0<=st.steps
 s1:st.steps<=F
 ai:0<=ai->(st.ends.length:Int)<ai
def Sim (P:Re) (t:List Int) (F:Int) (nc n:Nat):Prop:=∀ai task st b st',eK t F n ai task st=some (b,st')->∀base S m p,MS P t F m S st.steps->SP F ai st->base<=S.length->TR P task p->TK nc st.steps task ->
 0<=task.pos->task.pos<=t.length->dz t task.aj->task.aj.length=nc->jI P t F nc base S ai task.pos m p true st b st'
theorem Aw (hM:MS P t F m S s) {r:bQ}{re:Re} (hr:Cv P r=some re):m.lit r=some re:=by
 cases r with
 |nil=>cases hr
 |root=>cases hr;show some m.p.re=_;rw[hM.p]
 |el re=>exact hr
theorem Uw{base:Nat}{p:aB}{al:Bool}{x:Rs} (hs:m.cz=false) (h:Ev m base p al x):∃k,cL k true m base p al=some x:=by
 obtain⟨k,hk⟩:=h;refine⟨k,?_⟩;cases k with
 |zero=>cases hk
 |succ k =>
  rw[cL.eq_2]at hk ⊢;rw[ap (show ¬(false=true/\m.cz=true) from λh=>by cases h.1)]at hk;rw[ap (show ¬(true=true/\m.cz=true) from λh=>by have h2:=h.2;rw[hs]at h2;cases h2)];exact hk
theorem Pn (hM:MS P t F m S s) (h:s<F):MS P t F m.step S (s+1)/\Po m m.step/\m.step.cS=m.cS:=by
 have hs:m.step={ m with steps:=m.steps+1 }:=by rw[aP.step,be (by rw[hM.steps,hM.fuel];exact h)]
 have h1:=hM.steps;rw[hs];refine⟨⟨hM.p,hM.t,hM.fuel,hM.same,hM.iq,by show m.steps+1=_;rw[h1],hM.cz,by have:=hM.room;omega⟩,⟨⟨rfl,rfl,rfl,rfl,rfl,rfl,rfl,rfl⟩,by show m.steps<=m.steps+1;omega,alj _,by show m.cS<=max m.cS _;omega,λ_=>by show m.steps+1<=m.fuel;rw[hM.steps,hM.fuel];omega⟩,rfl⟩
theorem Lx (hM:MS P t F m S s) (h:F<=s):A6 m.step S/\m.step.cz=true/\Po m m.step:=by
 have hs:m.step={ m with cz:=true }:=by rw[aP.step,ap (by rw[hM.steps,hM.fuel];omega)]
 rw[hs];exact⟨hM.iq,rfl,⟨rfl,rfl,rfl,rfl,rfl,rfl,rfl,rfl⟩,alj _,alj _,by show m.cS<=max m.cS _;omega,λh=>h⟩
theorem Jq (hM:MS P t F m S s) (q:aB) (h:(S.length:Int)+1<=s) (hF:F<=1200000000000) (hs:s<=F):MS P t F (m.push q) (S++[q]) s/\Po m (m.push q):=by
 have hk:=hM.iq.push q ae;have h1:=hM.steps;have ht:=hM.iq.2.1;refine⟨hM.fr (m.Dd q) hk h1 hM.cz (by rw[ald];simpa using h),m.Dd q,alj _,?_,?_,λh=>h⟩
 ·show m.cS<=max m.cS _;omega
 ·show max m.cS ((m.top+1:Nat):Int)<=max m.cS m.steps;omega
theorem QA{nc:Nat}{i:Int}{q:aB}{b:Bool}{x:bE} (hM:MS P t F m S s) (h:jI P t F nc S.length S 1 i m q true ⟨s,false,[],[]⟩ b x) :
  ∃m1 r found,(∃k,ja (λm base p=>cL k true m base p true) m q=some (m1,r,found))/\Po m m1/\A6 m1 S/\s<=x.steps /\
   ((x.empty=false/\MS P t F m1 S x.steps/\x.steps<=F/\((found=true/\∃e d,x.ends=[e]/\x.aj=[d]/\r=⟨e,d,.nil⟩/\i<=e/\e<=t.length/\dz t d/\d.length=nc)\/(found=false/\x.ends=[]/\x.aj=[]))) \/
    (x.empty=true/\m1.cz=true/\found=false)):=by
 obtain⟨R,m',h1,h2,h3,h4,h5,h6⟩:=h;simp only[ak6]at h1 h2;have TL:m.top=S.length:=hM.iq.2.1;have fin:∀{m2 r found S'},Ev m S.length q true (m2,r,found)->A6 m2 (S++S')->∃k,ja (λm base p=>cL k true m base p true) m q=some (m2.clear S.length,r,found):=by intro m2 r found S' he hS';obtain⟨k,hk⟩:=Uw hM.cz he;refine⟨k,?_⟩;simp only[ja];rw[TL,hk];simp only;rw[ap];have:=hS'.2.1;have:=hS'.len;rw[ald]at *;omega
 have poc:∀{m2:aP},Po m m2->Po m (m2.clear S.length):=λh=>⟨h.fr.trans (aP.yX _ _),h.steps,h.YI,h.XX,h.bM⟩
 rcases h6 with ⟨k1,k2,k3,k4,kF,p',k5⟩|⟨k1,k2,k3,k4,kF,S',R0,e,d,k5,k6,k7⟩|⟨k1,k2,k3,k4,p',S',k5,k6⟩
 ·
  have hx:x.ends=[]:=alz (by have:=k3 ae;omega);have hR:R=[]:=by rw[h1]at hx;exact List.map_eq_nil_iff.1 hx
  subst hR;have he:Ev m S.length q true (m',.zero,false):=vN k5 rfl (C0 k4.iq.2.1);refine⟨_,_,_,fin (S':=[]) he (by simpa using k4.iq),poc h4,(show A6 m' (S++[]) by simpa using k4.iq).clear,h5,.inl ⟨k2,?_,kF,.inr ⟨rfl,by simpa using h1,by simpa using h2⟩⟩⟩;exact k4.fr (aP.yX _ _) (show A6 m' (S++[]) by simpa using k4.iq).clear k4.steps k4.cz k4.room
 ·have hR0:R0=[]:=by have:=congrArg List.length h1;rw[k6]at this;simp at this;exact alz ae
  subst hR0;simp only[ak6]at k6;subst k6;have he:Ev m S.length q true (m',⟨e,d,.nil⟩,true):=by refine vN k7 rfl ?_;have:=MX (m:=m') (base:=S.length) (p:=⟨e,d,.nil⟩) rfl;rwa [k5.cz]at this
  have hr:=h3 (e,d) aq;refine⟨_,_,_,fin he k5.iq,poc h4,k5.iq.clear,h5,.inl ⟨k2,?_,kF,.inl ⟨rfl,e,d,by simpa using h1,by simpa using h2,rfl,hr.1,hr.2.1,hr.2.2.1,hr.2.2.2⟩⟩⟩;exact k5.fr (aP.yX _ _) k5.iq.clear k5.steps k5.cz (by have:=k5.room;rw[ald]at this;omega)
 ·have hx:x.ends=[]:=alz (by have:=k3 ae;omega);have hR:R=[]:=by rw[h1]at hx;exact List.map_eq_nil_iff.1 hx
  subst hR;have uF:∃m2 S2,Ev m' S.length p' false (m2,.zero,false)/\A6 m2 (S++S2)/\m2.cz=true/\Po m' m2:=by
   rcases List.eq_nil_or_concat S' with rfl|⟨S2,q2,rfl⟩
   ·refine⟨m',[],C0 (by simpa using k5.2.1),by simpa using k5,k4,.refl _⟩
   ·have Tz:A6 m' ((S++S2)++[q2]):=by simpa [alx]using k5
    refine⟨m'.pop,S2,?_,Tz.last.2,k4,Oj m'⟩;have hl:=Tz.len;have ht:m'.top=(S++S2).length+1:=by rw[Tz.2.1,ald];rfl
    refine⟨2,?_⟩;rw[cL.eq_2,ap (show ¬(false=true/\m'.cz=true) from λh=>by cases h.1),ap (λh=>by cases h.1),ap (λh=>by cases h),ap (by rw[ht,ald];omega),ap (by have:=Tz.2.2;omega),Tz.last.1];simp only;rw[cL.eq_2,be ⟨rfl,k4⟩]
  obtain⟨m2,S2,j1,j2,j3,j4⟩:=uF;exact⟨_,_,_,fin (vN k6 rfl j1) j2,poc (h4.trans j4),j2.clear,h5,.inr ⟨k2,j3,rfl⟩⟩
section adO
variable {m:aP}{i n a:Int}{c:aC}{r:bQ}{g:bt}{y:Rs}
theorem oW (hg:m.gF ⟨i,c,.mk 0 r n a g⟩) (h:∃k,kS (λm base p=>cL k true m base p true) m r ⟨i,c,g⟩=some y):W4 m ⟨i,c,.mk 0 r n a g⟩ y:=by obtain⟨k,hk⟩:=h;refine⟨k,?_⟩;unfold vf;rw[ap (by simpa using hg)];exact hk
theorem rI (hg:m.gF ⟨i,c,.mk 2 r n a g⟩) (hn:0<=n) (xz:n<=10000000000000) (h:sE m r n ⟨i,c,g⟩=some y):W4 m ⟨i,c,.mk 2 r n a g⟩ y:=by refine⟨0,?_⟩;unfold vf;rw[ap (by simpa using hg)];simp only;rw[ap aF,bm,ap aF,be trivial];exact h
theorem Ts {re aJ:Re} (hg:m.gF ⟨i,c,.mk 1 r n a g⟩) (hn:0<=n) (xz:n<=10000000000000) (hr:m.lit r=some re) (hl:re.kids.length<=1000000000) (hk:re.kids[n.toNat]?=some aJ) :
  W4 m ⟨i,c,.mk 1 r n a g⟩ (if n+1<re.kids.length then m.push ⟨i,c,.mk 1 r (n+1) 0 g⟩ else m,⟨i,c,.mk 0 (.el aJ) 0 0 g⟩,true):=by
 refine⟨0,?_⟩;unfold vf;rw[ap (by simpa using hg)];simp only;rw[ap aF,bm,be trivial,hr];simp only;rw[bm,hk];rfl
theorem Qs (hg:m.gF ⟨i,c,.mk 3 r n a g⟩) (hn:0<=n) (xz:n<=10000000000000):W4 m ⟨i,c,.mk 3 r n a g⟩ (if i=a then (m,.zero,false) else (m,⟨i,c,.mk 2 r n 0 g⟩,true)):=by refine⟨0,?_⟩;unfold vf;rw[ap (by simpa using hg)];simp only;rw[ap aF,bm,ap aF,ap aF,be trivial];split <;> rfl
theorem Wd {re:Re} (hg:m.gF ⟨i,c,.mk 4 r 0 a g⟩) (hr:m.lit r=some re) (h1:1<=re.n) (h2:re.n<=c.length):W4 m ⟨i,c,.mk 4 r 0 a g⟩ (m,⟨i,c.set (re.n-1).toNat (a,i),g⟩,true):=by refine⟨0,?_⟩;unfold vf;rw[ap (by simpa using hg)];simp only;rw[ap aF,ap aF,ap aF,ap aF,ap aF,be trivial,hr];simp only;rw[bm]
theorem N6 (hg:m.gF ⟨i,c,.mk 5 r 0 a g⟩):W4 m ⟨i,c,.mk 5 r 0 a g⟩ (m,⟨i,c,g⟩,decide (i=a)):=by refine⟨0,?_⟩;unfold vf;rw[ap (by simpa using hg)];simp only;rw[ap aF,ap aF,ap aF,ap aF,ap aF,ap aF,be trivial]
end adO
theorem AQ {nc:Int}{re:Re} (h:re.every (vB nc)=true):((re.op=3\/re.op=4\/re.op=5\/re.op=7\/re.op=8\/re.op=9->re.kids≠[])/\(re.op=10->2<=re.kids.length)/\re.set.length<=1000000000/\re.kids.length<=1000000000 /\
  (re.op=5\/re.op=6\/re.op=10->1<=re.n/\re.n<=nc)/\(re.op=11->0<=re.n/\re.n<=5)/\(re.op=4->-1<=re.mx))/\∀k∈re.kids,k.every (vB nc)=true:=by
 obtain⟨h1,h2⟩:=(Re.az re).1 h;exact⟨of_decide_eq_true h1,h2⟩
structure Fx (t:List Int) (F:Int) (nc:Nat):Prop where
 ht:t.length<=1000000
 hF:F<=1200000000000
 nc:nc<=1000000000
theorem SP.step {F ai:Int}{st:bE} (h:SP F ai st) (he:(st.step F).empty=false):st.steps<F/\SP F ai (st.step F):=by simp only[bE.step,h.empty,alB]at he;have h1:=of_decide_eq_false he;refine⟨ae,?_,by show 0<=st.steps+1;have:=h.s0;omega,by show st.steps+1<=F;omega,h.ai⟩;simp only[bE.step,h.empty,alB];exact ce h1
theorem SP.O5 {F ai:Int}{st:bE} (h:SP F ai st) (he:(st.step F).empty=true):F<=st.steps:=by simp only[bE.step,h.empty,alB]at he;have:=of_decide_eq_true he;omega
section rep
variable {P:Re}{t:List Int}{F:Int}{nc n:Nat} (X:Fx t F nc) (ih:Sim P t F nc n)
include X ih
theorem Wg {ai:Int}{re Q5:Re}{k i:Int}{c:aC}{next:Goal}{st st':bE}{b:Bool}{base:Nat}{S:List aB}{m:aP}{r:bQ}{a:Int}{g:bt} (hM:MS P t F m S st.steps) (hS:SP F ai st) (hb:base<=S.length)
  (hr:Cv P r=some Q5) (hrt:RT Q5 re) (hg:GR P g next) (hv:re.every (vB nc)=true) (o4:re.op=4) (Vw:re.mode≠2) (jX:0<=k) (sY:k<=st.steps) (hn:GK nc i st.steps next) (hi0:0<=i) (ic:i<=t.length) (hc:dz t c) (cQ:c.length=nc)
  (h:sO F (eK t F n) ai re k next i c st=some (b,st')):jI P t F nc base S ai i m ⟨i,c,.mk 2 r k a g⟩ true st b st':=by
 have jW:=hS.s0;have dL:=hS.s1;have hF:=X.hF;unfold sO at h;rw[ap Vw]at h;rw[ap (show ¬(st.steps<0\/10000000000000<st.steps) by omega)]at h;simp only at h;have jy:=hM.gF (p:=⟨i,c,.mk 2 r k a g⟩) X.ht hF jW dL hi0 ic (by show c.length<=_;rw[cQ];exact X.nc);have XO:=Aw hM hr;have e0:Q5.kids=re.kids/\Q5.mn=re.mn/\Q5.mx=re.mx/\(Q5.mode=1 ↔ re.mode=1):=by
  rcases hrt with ⟨rfl,_⟩|⟨h2,rfl⟩
  ·exact⟨rfl,rfl,rfl,Iff.rfl⟩
  ·refine⟨rfl,rfl,rfl,?_⟩;rw[h2];simp [Re.dJ,Re.mode]
 obtain⟨e1,e2,e3,e4⟩:=e0;obtain⟨⟨v1,_,_,v4,_,_,v7⟩,Sx⟩:=AQ hv;obtain⟨aJ,l,iw⟩:∃aJ l,re.kids=aJ::l:=by
  cases hh:re.kids with
  |nil=>exact absurd hh (v1 ae)
  |cons y l=>exact⟨y,l,rfl⟩
 have hround:∀y,sE m r k ⟨i,c,g⟩=y->sE m r k ⟨i,c,g⟩=(if m.fuel<=m.steps then some (m.step,.zero,false) else if k<re.mn then some (m.step,⟨i,c,.mk 0 (.el aJ) 0 0 (.mk 2 r (k+1) 0 g)⟩,true)
   else if 0<=re.mx/\re.mx<=k then some (m.step,⟨i,c,g⟩,true)
   else if re.mode=1 then some (m.step.push ⟨i,c,.mk 0 (.el aJ) 0 0 (.mk 3 r (k+1) i g)⟩,⟨i,c,g⟩,true) else some (m.step.push ⟨i,c,g⟩,⟨i,c,.mk 0 (.el aJ) 0 0 (.mk 3 r (k+1) i g)⟩,true)):=by
  intro y _;unfold sE;rw[XO];simp only;rw[e1,iw,e2,e3];simp only[e4]
 have hround:=hround _ rfl;by_cases he:(st.step F).empty=true
 ·rw[be he]at h;cases h;have O4:=hS.O5 he;obtain⟨q1,q2,q3⟩:=Lx hM O4;refine jI.Cr rfl (rI jy jX ae (y:=(m.step,.zero,false)) ?_) q3 (jI.out q1 q2 he hS.ai rfl rfl (by show st.steps<=st.steps+1;omega));rw[hround,be (by rw[hM.steps,hM.fuel];exact O4)]
 rw[ap he]at h;have he:(st.step F).empty=false:=by simpa using he
 obtain⟨aE,vh⟩:=hS.step he;obtain⟨Na,Yi,_⟩:=Pn hM aE;rw[ap (by rw[hM.steps,hM.fuel];omega)]at hround;have Za:(st.step F).steps=st.steps+1:=rfl;have Sq:(st.step F).ends=st.ends:=rfl;have Yh:(st.step F).aj=st.aj:=rfl;rw[<- Za]at Na;generalize ae1:st.step F=s1 at *;rw[iw]at h;simp only at h;have ZK:aJ.every (vB nc)=true:=Sx aJ (by rw[iw];simp);have xz:GK nc i s1.steps next:=hn.mono (alj _) ae
 have once:∀(s s':bE) (b':Bool) (S2:List aB) (m2:aP),base<=S2.length->MS P t F m2 S2 s.steps->SP F ai s->s1.steps<=s.steps->eK t F n ai (.run (.mk 0 aJ 0 0 (.mk 2 re k i next)) i c) s=some (b',s')->re.mn<=k->jI P t F nc base S2 ai i m2 ⟨i,c,.mk 0 (.el aJ) 0 0 (.mk 3 r (k+1) i g)⟩ true s b' s':=by intro s s' b' S2 m2 T1 QU hSs PX A1 hmn;refine ih ai _ s b' s' A1 base S2 m2 _ QU hSs T1 ⟨rfl,rfl,.tree rfl (.Yc hr hrt hmn hg)⟩ ?_ hi0 ic hc cQ;exact⟨λ_=>ZK,λh=>ae,λh=>ae,λh=>ae,λh=>ae,λ_=>hv,λ_=>⟨o4,Vw,jX⟩,λh=>ae,λ_=>ae,λh=>ae,xz.mono (alj _) PX⟩
 have nxt:∀(s s':bE) (b':Bool) (S2:List aB) (m2:aP),base<=S2.length->MS P t F m2 S2 s.steps->SP F ai s->s1.steps<=s.steps->eK t F n ai (.run next i c) s=some (b',s')->jI P t F nc base S2 ai i m2 ⟨i,c,g⟩ true s b' s':=by intro s s' b' S2 m2 T1 QU hSs PX A1;exact ih ai _ s b' s' A1 base S2 m2 _ QU hSs T1 ⟨rfl,rfl,hg⟩ (xz.mono (alj _) PX) hi0 ic hc cQ
 by_cases c2:k<re.mn
 ·rw[be c2]at h;rw[be c2]at hround;refine jI.Cr rfl (rI jy jX ae hround) Yi (jI.qd ?_ (alj _) Sq Yh ae);refine ih ai _ s1 b st' h base S _ _ Na vh hb ⟨rfl,rfl,.tree rfl (.more hr hrt c2 hg)⟩ ?_ hi0 ic hc cQ;exact⟨λ_=>ZK,λh=>ae,λh=>ae,λh=>ae,λh=>ae,λ_=>hv,λ_=>⟨o4,Vw,jX⟩,λh=>ae,λ_=>ae,λh=>ae,xz⟩
 rw[ap c2]at h hround;have Sp:=v7 o4;by_cases cM:re.mx=-1\/k<re.mx
 ·rw[ap (show ¬(0<=re.mx/\re.mx<=k) by omega)]at hround;simp only[be cM]at h;have vt:=hM.room;by_cases m1:re.mode=1
  ·rw[be m1]at h hround;obtain⟨hMp,hPp⟩:=Jq Na ⟨i,c,.mk 0 (.el aJ) 0 0 (.mk 3 r (k+1) i g)⟩ ae hF vh.s1;refine jI.Cr rfl (rI jy jX ae hround) (Yi.trans hPp) (jI.qd ?_ (alj _) Sq Yh ae);cases hx:eK t F n ai (.run next i c) s1 with
   |none=>rw[hx]at h;cases h
   |some y =>
    obtain⟨b1,s2⟩:=y;rw[hx]at h;refine jI.or hb (nxt s1 s2 b1 _ _ (by rw[ald];omega) hMp vh (alj _) hx) (λgY=>?_) (λgY m2 SI QU WH Wq Bt PX=>?_)
    ·exact ZcH
    ·subst gY;simp only[xc]at h;exact once s2 st' b S m2.pop hb QU.pop ⟨WH,ae,Wq,Bt⟩ PX h ae
  ·rw[ap m1]at h hround;obtain⟨hMp,hPp⟩:=Jq Na ⟨i,c,g⟩ ae hF vh.s1;refine jI.Cr rfl (rI jy jX ae hround) (Yi.trans hPp) (jI.qd ?_ (alj _) Sq Yh ae);cases hx:eK t F n ai (.run (.mk 0 aJ 0 0 (.mk 2 re k i next)) i c) s1 with
   |none=>rw[hx]at h;cases h
   |some y =>
    obtain⟨b1,s2⟩:=y;rw[hx]at h;refine jI.or hb (once s1 s2 b1 _ _ (by rw[ald];omega) hMp vh (alj _) hx ae) (λgY=>?_) (λgY m2 SI QU WH Wq Bt PX=>?_)
    ·exact ZcH
    ·subst gY;simp only[xc]at h;exact nxt s2 st' b S m2.pop hb QU.pop ⟨WH,ae,Wq,Bt⟩ PX h
 ·rw[be (show 0<=re.mx/\re.mx<=k by omega)]at hround;simp only[ap cM]at h;have h':eK t F n ai (.run next i c) s1=some (b,st'):=by
   split at h
   ·cases hx:eK t F n ai (.run next i c) s1 with
    |none=>rw[hx]at h;cases h
    |some y =>
     obtain⟨b1,s2⟩:=y;rw[hx]at h;cases b1 with
     |true=>exact h
     |false=>exact h
   ·exact h
  refine jI.Cr rfl (rI jy jX ae hround) Yi (jI.qd (nxt s1 st' b S _ hb Na vh (alj _) h') (alj _) Sq Yh ae)
end rep
section nodes
variable {P:Re}{t:List Int}{F:Int}{nc n:Nat} (X:Fx t F nc) (ih:Sim P t F nc n)
include ih
theorem AW {h:Goal}{q:Int}{c:aC}{st s2:bE}{o:Option (Int×aC)}{S:List aB}{m:aP}{gb:bt} (hM:MS P t F m S st.steps) (he:st.empty=false) (jW:0<=st.steps) (dL:st.steps<=F) (hg:GR P gb h) (hk:GK nc q st.steps h) (hq0:0<=q) (hq1:q<=t.length) (hc:dz t c) (cQ:c.length=nc)
  (hr:cY (eK t F n) h q c st=some (o,s2)) :
  ∃m1 r found,(∃k,ja (λm base p=>cL k true m base p true) m ⟨q,c,gb⟩=some (m1,r,found))/\Po m m1/\A6 m1 S/\st.steps<=s2.steps/\s2.ends=st.ends/\s2.aj=st.aj /\
   ((s2.empty=false/\MS P t F m1 S s2.steps/\s2.steps<=F/\((found=true/\∃e d,o=some (e,d)/\r=⟨e,d,.nil⟩/\q<=e/\e<=t.length/\dz t d/\d.length=nc)\/(found=false/\o=none))) \/
    (s2.empty=true/\m1.cz=true/\found=false/\o=none)):=by
 unfold cY at hr;cases hx:eK t F n 1 (.run h q c) ⟨st.steps,false,[],[]⟩ with
 |none=>rw[hx]at hr;cases hr
 |some y =>
  obtain⟨b,x⟩:=y;rw[hx]at hr;simp only at hr;have LK:=ih 1 _ _ _ _ hx S.length S m ⟨q,c,gb⟩ hM ⟨rfl,jW,dL,λ_=>aq⟩ (ale _) ⟨rfl,rfl,hg⟩ hk hq0 hq1 hc cQ;obtain⟨m1,r,found,k1,k2,k3,k4,k5⟩:=QA hM LK;rcases k5 with ⟨j1,j2,j3,j4⟩|⟨j1,j2,j3⟩
  ·rw[ap (by rw[j1];exact alJ)]at hr;rcases j4 with ⟨l1,e,d,l2,l3,l4,l5,l6,l7,l8⟩|⟨l1,l2,l3⟩
   ·rw[l2,l3]at hr;cases hr;exact⟨m1,r,found,k1,k2,k3,k4,rfl,rfl,.inl ⟨j1,j2,j3,.inl ⟨l1,e,d,rfl,l4,l5,l6,l7,l8⟩⟩⟩
   ·rw[l2,l3]at hr;cases hr;exact⟨m1,r,found,k1,k2,k3,k4,rfl,rfl,.inl ⟨j1,j2,j3,.inr ⟨l1,rfl⟩⟩⟩
  ·rw[be j1]at hr;cases hr;exact⟨m1,r,found,k1,k2,k3,k4,rfl,rfl,.inr ⟨j1,j2,j3,rfl⟩⟩
def LO (P:Re) (t:List Int) (F:Int) (nc:Nat) (S:List aB) (neg:Bool) (p:aB) (m:aP) (st:bE) (ro:Option aC) (s2:bE) (x:Rs):Prop :=
 Po m x.1/\A6 x.1 S/\st.steps<=s2.steps/\s2.ends=st.ends/\s2.aj=st.aj /\
  ((s2.empty=true/\x.1.cz=true/\x.2.2=false) \/
   (s2.empty=false/\MS P t F x.1 S s2.steps/\s2.steps<=F/\((ro=none/\x.2.1=p/\x.2.2=neg)\/∃d,ro=some d/\dz t d/\d.length=nc/\((neg=true/\x.2.2=false)\/(neg=false/\x.2.1={ p with aj:=d }/\x.2.2=true)))))
theorem Bl {h:Goal}{gb:bt}{c:aC}{S:List aB}{neg:Bool}{p:aB}{last:Int} (hg:GR P gb h) (hc:dz t c) (cQ:c.length=nc):∀(j:Nat) (m:aP) (st s2:bE) (ro:Option aC),
  (∀q:Nat,q<j->0<=last+q/\last+q<=t.length)->(∀(q s:Int),st.steps<=s->GK nc q s h)->MS P t F m S st.steps->st.empty=false->0<=st.steps->st.steps<=F ->
  dT (λk st=>cY (eK t F n) h (last+k) c st) j st=some (ro,s2) ->
  ∃x,(∃k,mM (λq m=>ja (λm base p=>cL k true m base p true) m ⟨q,c,gb⟩) neg p last j m=some x)/\LO P t F nc S neg p m st ro s2 x
 |0,m,st,s2,ro,_,_,hM,he,_,dL,hr=>by simp only[dT]at hr;cases hr;exact⟨(m,p,neg&&!m.cz),⟨0,rfl⟩,.refl m,hM.iq,alj _,rfl,rfl,.inr ⟨he,hM,dL,.inl ⟨rfl,rfl,by rw[hM.cz];simp⟩⟩⟩
 |j+1,m,st,s2,ro,hq,hk,hM,he,jW,dL,hr=>by
  simp only[dT]at hr;rw[ap (by rw[he];exact alJ)]at hr;have hqj:=hq j ae;cases hx:cY (eK t F n) h (last+j) c st with
  |none=>rw[hx]at hr;cases hr
  |some y =>
   obtain⟨o,s3⟩:=y;rw[hx]at hr;obtain⟨m1,r,found,⟨k1,sY⟩,k2,k3,k4,k5,k6,k7⟩:=AW ih hM he jW dL hg (hk _ _ (alj _)) hqj.1 hqj.2 hc cQ hx;rcases k7 with ⟨j1,j2,j3,⟨rfl,e,d,rfl,rfl,l3,l4,l5,l6⟩|⟨rfl,rfl⟩⟩|⟨j1,j2,rfl,rfl⟩
   ·simp only at hr;cases hr;refine⟨if neg=true then (m1,.zero,false) else (m1,{ p with aj:=d },true),⟨k1,?_⟩,?_⟩
    ·simp only[mM];rw[ap (by rw[hM.cz];exact alJ),sY];simp only[if_true];split <;> rfl
    ·cases neg with
     |true=>exact⟨k2,k3,k4,k5,k6,.inr ⟨j1,j2,j3,.inr ⟨d,rfl,l5,l6,.inl ⟨rfl,rfl⟩⟩⟩⟩
     |false=>exact⟨k2,k3,k4,k5,k6,.inr ⟨j1,j2,j3,.inr ⟨d,rfl,l5,l6,.inr ⟨rfl,rfl,rfl⟩⟩⟩⟩
   ·simp only at hr;obtain⟨x,⟨k2',DH⟩,p1,p2,p3,p4,p5,p6⟩:=Bl hg hc cQ j m1 s3 s2 ro (λq hqq=>hq q ae) (λq s PX=>hk q s ae) j2 j1 ae j3 hr;refine⟨x,⟨max k1 k2',?_⟩,k2.trans p1,p2,ae,by rw[p4,k5],by rw[p5,k6],p6⟩;simp only[mM];rw[ap (by rw[hM.cz];exact alJ),qL (λm base p x hx=>ts (amA k1 k2') hx) sY];simp only[alk,if_false];exact xU (λq m x hx=>qL (λm base p x hx=>ts (amy k1 k2') hx) hx) _ _ _ DH
   ·simp only at hr;have CX:(ro,s2)=(none,s3):=by
     cases j with
     |zero=>simp only[dT]at hr;exact(amx hr).symm
     |succ j=>simp only[dT]at hr;rw[be j1]at hr;exact(amx hr).symm
    cases CX;refine⟨(m1,p,neg&&!m1.cz),⟨k1,?_⟩,k2,k3,k4,k5,k6,.inl ⟨j1,j2,by rw[j2];simp⟩⟩;simp only[mM];rw[ap (by rw[hM.cz];exact alJ),sY];simp only[alk,if_false];cases j with
    |zero=>simp only[mM]
    |succ j=>simp only[mM];rw[be j2]
include X
theorem OT {ai:Int}{re:Re}{i:Int}{c:aC}{next:Goal}{base:Nat}{r:bQ}{g:bt}{b:Bool}{st':bE} (hr:Cv P r=some re) (hg:GR P g next) (hv:re.every (vB nc)=true) (hi0:0<=i) (ic:i<=t.length) (hc:dz t c) (cQ:c.length=nc) :
  ∀(l:List Re) (j:Nat) (st:bE) (S:List aB) (m:aP) (a:Int),re.kids.drop j=l->l≠[]->MS P t F m S st.steps->SP F ai st->(S.length:Int)+1<=st.steps->base<=S.length->GK nc i st.steps next ->
   uD (λk st=>eK t F n ai (.run (.mk 0 k 0 0 next) i c) st) l st=some (b,st')->jI P t F nc base S ai i m ⟨i,c,.mk 1 r j a g⟩ true st b st'
 |[],_,_,_,_,_,_,eX,_,_,_,_,_,_=>absurd rfl eX
 |aJ::l,j,st,S,m,a,hl,_,hM,hS,vt,hb,hk,h=>by
  have wV:re.kids[j]?=some aJ:=by have:=congrArg (λl=>l[0]?) hl;simpa using this
  have hj:=(List.getElem?_eq_some_iff.1 wV).1;obtain⟨⟨_,_,_,v4,_,_,_⟩,Sx⟩:=AQ hv;have jy:=hM.gF (p:=⟨i,c,.mk 1 r j a g⟩) X.ht X.hF hS.s0 hS.s1 hi0 ic (by show c.length<=_;rw[cQ];exact X.nc);have tX:=Ts (re:=re) (aJ:=aJ) jy ae ae (Aw hM hr) v4 (by simpa using wV);have dU:∀(dI:bE) (b1:Bool) (s2:bE) (S2:List aB) (m2:aP),eK t F n ai (.run (.mk 0 aJ 0 0 next) i c) dI=some (b1,s2)->MS P t F m2 S2 dI.steps->SP F ai dI->base<=S2.length->st.steps<=dI.steps ->
    jI P t F nc base S2 ai i m2 ⟨i,c,.mk 0 (.el aJ) 0 0 g⟩ true dI b1 s2:=by
   intro dI b1 s2 S2 m2 A1 QU hS2 T1 PX;exact ih ai _ dI b1 s2 A1 base S2 m2 _ QU hS2 T1 ⟨rfl,rfl,.tree rfl hg⟩ ⟨λ_=>Sx aJ (List.mem_of_getElem? wV),λh=>ae,λh=>ae,λh=>ae,λh=>ae,hk.mono (alj _) PX⟩ hi0 ic hc cQ
  have UL:re.kids.drop (j+1)=l:=by
   have h1:re.kids.drop (j+1)=(re.kids.drop j).drop 1:=by rw[List.drop_drop]
   rw[h1,hl];rfl
  simp only[uD]at h;cases hx:eK t F n ai (.run (.mk 0 aJ 0 0 next) i c) st with
  |none=>rw[hx]at h;cases h
  |some y =>
   obtain⟨b1,s2⟩:=y;rw[hx]at h;cases l with
   |nil =>
    have hlen:re.kids.length=j+1:=by have:=congrArg List.length UL;simp at this;omega
    rw[bm]at tX;have VS:b1=b/\s2=st':=by
     cases b1 with
     |true=>simp only[xc]at h;cases h;exact⟨rfl,rfl⟩
     |false=>simp only[xc,uD]at h;cases h;exact⟨rfl,rfl⟩
    obtain⟨rfl,rfl⟩:=VS;exact jI.Cr rfl tX (.refl m) (dU st b1 s2 S m hx hM hS hb (alj _))
   |cons k2 l2 =>
    have hlen:j+1<re.kids.length:=by have:=congrArg List.length UL;simp at this;omega
    rw[rY]at tX;obtain⟨hMp,hPp⟩:=Jq hM ⟨i,c,.mk 1 r ((j:Int)+1) 0 g⟩ vt X.hF hS.s1;refine jI.Cr rfl tX hPp ?_;refine jI.or hb (dU st b1 s2 _ _ hx hMp hS (by rw[ald];omega) (alj _)) (λgY=>?_) (λgY m2 SI QU WH Wq Bt PX=>?_)
    ·exact ZcH
    ·subst gY;simp only[xc]at h;have:=OT hr hg hv hi0 ic hc cQ (k2::l2) (j+1) s2 S m2.pop 0 UL aq QU.pop ⟨WH,by have:=hS.s0;omega,Wq,Bt⟩ ae hb (hk.mono (alj _) PX) h;simpa using this
end nodes
theorem PB {P:Re}{g:bt}{h:Goal} (hg:GR P g h):∀l:List Re,GR P (mP l g) (gm l h)
 |[]=>hg
 |k::l=>.tree rfl (PB hg l)
theorem Pe {nc i s:Int}{h:Goal} (hk:GK nc i s h):∀l:List Re,(∀k∈l,k.every (vB nc)=true)->GK nc i s (gm l h)
 |[],_=>hk
 |k::l,hv=>⟨λ_=>hv k aq,λh=>ae,λh=>ae,λh=>ae,λh=>ae,Pe hk l (λx hx=>hv x (by simp [hx]))⟩
section nodes
variable {P:Re}{t:List Int}{F:Int}{nc n:Nat} (X:Fx t F nc) (ih:Sim P t F nc n)
include X ih
theorem Tn {ai:Int}{re:Re}{i:Int}{c:aC}{next:Goal}{st st':bE}{b:Bool}{base:Nat}{S:List aB}{m:aP}{r:bQ}{n0 a:Int}{g:bt} (hM:MS P t F m S st.steps) (hS:SP F ai st) (hb:base<=S.length)
  (hr:Cv P r=some re) (hg:GR P g next) (hv:re.every (vB nc)=true) (o4:re.op≠4) (hn:GK nc i st.steps next) (hi0:0<=i) (ic:i<=t.length) (hc:dz t c) (cQ:c.length=nc)
  (h:(if (st.step F).empty then some (true,st.step F) else fA t (eK t F n) ai re next i c (st.step F))=some (b,st')):jI P t F nc base S ai i m ⟨i,c,.mk 0 r n0 a g⟩ true st b st':=by
 have jW:=hS.s0;have dL:=hS.s1;have hF:=X.hF;have ZH:c.length<=1000000000:=by rw[cQ];exact X.nc
 have jy:=hM.gF (p:=⟨i,c,.mk 0 r n0 a g⟩) X.ht hF jW dL hi0 ic ZH;have XO:=Aw hM hr;obtain⟨⟨v1,v2,v3,v4,v5,v6,_⟩,Sx⟩:=AQ hv;by_cases he:(st.step F).empty=true
 ·rw[be he]at h;cases h;have O4:=hS.O5 he;obtain⟨q1,q2,q3⟩:=Lx hM O4;refine jI.Cr rfl (oW jy (y:=(m.step,.zero,false)) ⟨0,?_⟩) q3 (jI.out q1 q2 he hS.ai rfl rfl (by show st.steps<=st.steps+1;omega));unfold kS;rw[XO];simp only;rw[bm,ap o4,be (by rw[hM.steps,hM.fuel];exact O4)]
 rw[ap he]at h;have he:(st.step F).empty=false:=by simpa using he
 obtain⟨aE,vh⟩:=hS.step he;obtain⟨Na,Yi,_⟩:=Pn hM aE;have hfu:¬m.fuel<=m.steps:=by rw[hM.steps,hM.fuel];omega
 have Za:(st.step F).steps=st.steps+1:=rfl;have Sq:(st.step F).ends=st.ends:=rfl;have Yh:(st.step F).aj=st.aj:=rfl;rw[<- Za]at Na;generalize ae1:st.step F=s1 at *;have xz:GK nc i s1.steps next:=hn.mono (alj _) ae
 have WU:m.step.t=t:=Na.t;have vt:=hM.room;have go:∀(e:Int) (d:aC) (s2:bE) (m2:aP) (b2:Bool) (s3:bE),MS P t F m2 S s2.steps->SP F ai s2->s1.steps<=s2.steps->i<=e->e<=t.length->dz t d->d.length=nc->eK t F n ai (.run next e d) s2=some (b2,s3)->jI P t F nc base S ai e m2 ⟨e,d,g⟩ true s2 b2 s3:=by intro e d s2 m2 b2 s3 QU hS2 PX he1 WH hd Un A1;exact ih ai _ s2 b2 s3 A1 base S m2 _ QU hS2 hb ⟨rfl,rfl,hg⟩ (xz.mono he1 PX) (by show (0:Int)<=e;omega) WH hd Un
 have gol:∀(gb:bt) (hh:Goal) (b2:Bool) (s3:bE),GR P gb hh->GK nc i s1.steps hh->eK t F n ai (.run hh i c) s1=some (b2,s3)->jI P t F nc base S ai i m.step ⟨i,c,gb⟩ true s1 b2 s3:=by intro gb hh b2 s3 xh hgk A1;exact ih ai _ s1 b2 s3 A1 base S m.step _ Na vh hb ⟨rfl,rfl,xh⟩ hgk hi0 ic hc cQ
 have mv:∀(y:aB) (al:Bool),(∀rec,kS rec m r ⟨i,c,g⟩=some (m.step,y,al))->jI P t F nc base S ai i m.step y al s1 b st'->jI P t F nc base S ai i m ⟨i,c,.mk 0 r n0 a g⟩ true st b st':=λy al afU LK =>
  jI.Cr rfl (oW jy ⟨0,afU _⟩) Yi (LK.qd (alj _) Sq Yh ae)
 have dead:∀(y:aB),b=false->st'=s1->jI P t F nc base S ai i m.step y false s1 b st':=λy gY hs=>by subst gY;subst hs;exact jI.no Na vh.empty vh.ai vh.s1
 have oo:∀rec,kS rec m r ⟨i,c,g⟩=(let m:=m.step
   if re.op=1 then some (m,EZ m.t re ⟨i,c,g⟩)
   else if re.op=2 then some (m,⟨i,c,mP re.kids g⟩,true)
   else if re.op=3 then some (m,sq ⟨i,c,g⟩ 1 r 0 0,true)
   else if re.op=5 then match re.kids with
    |[]=>none
    |aJ::_=>some (m,sq (sq ⟨i,c,g⟩ 4 r 0 i) 0 (.el aJ) 0 0,true)
   else if re.op=6 then match Of m.t re ⟨i,c,g⟩ with
    |none=>none
    |some x=>some (m,x)
   else if re.op=7\/re.op=8 then match re.kids with
    |[]=>none
    |aJ::_=>qq rec m re aJ ⟨i,c,g⟩
   else if re.op=9 then match re.kids with
    |[]=>none
    |aJ::_=>my rec m ⟨i,c,g⟩ (.mk 0 (.el aJ) 0 0 .nil)
   else if re.op=10 then match re.kids with
    |yes::no::_=>if re.n<1\/(c.length:Int)<re.n then none else some (m,sq ⟨i,c,g⟩ 0 (.el (if 0<=(c.getD (re.n-1).toNat (-1,-1)).1 then yes else no)) 0 0,true)
    |_=>none
   else if re.op=11 then (if re.n<0\/5<re.n then none else some (m,⟨i,c,g⟩,bY re.n m.t i))
   else some (m,⟨i,c,g⟩,true)):=by
  intro rec;unfold kS;rw[XO];simp only;rw[bm,ap o4,ap hfu];rfl
 simp only at oo;unfold fA at h;by_cases o1:re.op=1
 ·rw[be o1]at h;simp only[be o1]at oo;by_cases q:i<t.length/\yP re.set (lK t i)=true
  ·rw[be q]at h;refine mv ⟨i+1,c,g⟩ true (λrec=>?_) ((go (i+1) c s1 m.step b st' Na vh (alj _) ae ae hc cQ h).qd ae rfl rfl (alj _));rw[oo rec];unfold EZ;rw[WU,be q]
  ·rw[ap q]at h;cases h;refine mv .zero false (λrec=>?_) (dead _ rfl rfl);rw[oo rec];unfold EZ;rw[WU,ap q]
 rw[ap o1]at h;simp only[ap o1]at oo;by_cases o2:re.op=2
 ·rw[be o2]at h;simp only[be o2]at oo;exact mv _ true oo (gol _ _ b st' (PB hg re.kids) (Pe xz re.kids Sx) h)
 rw[ap o2]at h;simp only[ap o2]at oo;by_cases o3:re.op=3
 ·rw[be o3]at h;simp only[be o3]at oo;refine mv _ true oo ?_;exact OT X ih hr hg hv hi0 ic hc cQ re.kids 0 s1 S m.step 0 rfl (v1 (.inl o3)) Na vh ae hb xz h
 rw[ap o3]at h;simp only[ap o3]at oo;by_cases o5:re.op=5
 ·rw[be o5]at h;simp only[be o5]at oo;cases hk:re.kids with
  |nil=>rw[hk]at h;cases h
  |cons aJ l =>
   rw[hk]at h;simp only[hk]at oo;refine mv _ true oo (gol _ _ b st' (.tree rfl (.cap hr hg)) ?_ h);exact⟨λ_=>Sx aJ (by rw[hk];simp),λh=>ae,λh=>ae,λh=>ae,λh=>ae,λ_=>hv,λh=>ae,λh=>ae,λh=>ae,λ_=>⟨o5,hi0,alj _⟩,xz⟩
 rw[ap o5]at h;simp only[ap o5]at oo;by_cases o6:re.op=6
 ·rw[be o6]at h;simp only[be o6]at oo;simp only at h;obtain⟨w1,w2⟩:=v5 ae;have lQ:ct c re.n=c.getD (re.n-1).toNat (-1,-1):=by unfold ct;rw[bm]
  have Ty:=Kd hc re.n;rw[lQ]at h Ty;have hrf:Of t re ⟨i,c,g⟩=(let x:=c.getD (re.n-1).toNat (-1,-1)
    if x.1<0\/(t.length:Int)-i<x.2-x.1 then some (.zero,false) else if x.2<x.1\/(t.length:Int)<x.2 then none
    else if jv t x.1 i (x.2-x.1).toNat=true then some (⟨i+(x.2-x.1),c,g⟩,true) else some (.zero,false)):=by
   unfold Of;rw[ap (by show ¬(re.n<1\/(c.length:Int)<re.n);omega)];simp only;rw[ap];have ht:=X.ht;rcases Ty with Ty|Ty
   ·rw[Ty];simp
   ·omega
  rw[WU,hrf]at oo;generalize c.getD (re.n-1).toNat (-1,-1)=x at *;obtain⟨x1,x2⟩:=x;simp only at h oo Ty;by_cases q1:x1<0
  ·rw[be q1]at h;simp only[be (show x1<0\/(t.length:Int)-i<x2-x1 from .inl q1)]at oo;exact ZcB
  rw[ap q1]at h;by_cases q2:x2<x1\/(t.length:Int)<x2
  ·rw[be q2]at h;cases h
  rw[ap q2]at h;by_cases q3:t.length<i+x2-x1
  ·rw[be q3]at h;simp only[be (show x1<0\/(t.length:Int)-i<x2-x1 from .inr ae)]at oo;exact ZcB
  rw[ap q3]at h;simp only[ap (show ¬(x1<0\/(t.length:Int)-i<x2-x1) by omega),ap q2]at oo;by_cases q4:jv t x1 i (x2-x1).toNat=true
  ·rw[be q4]at h;simp only[be q4]at oo;have mb:i+x2-x1=i+(x2-x1):=ae;rw[mb]at h;exact mv _ _ oo ((go (i+(x2-x1)) c s1 m.step b st' Na vh (alj _) ae ae hc cQ h).qd ae rfl rfl (alj _))
  ·rw[ap q4]at h;simp only[ap q4]at oo;exact ZcB
 rw[ap o6]at h;simp only[ap o6]at oo;by_cases o7:re.op=7\/re.op=8
 ·rw[be o7]at h;simp only[be o7]at oo;cases hk:re.kids with
  |nil=>rw[hk]at h;cases h
  |cons aJ l =>
   rw[hk]at h;simp only[hk]at oo;simp only at h;have ZK:aJ.every (vB nc)=true:=Sx aJ (by rw[hk];simp);cases yh:oq (eK t F n) re.op aJ i c s1 with
   |none=>rw[yh]at h;cases h
   |some y =>
    obtain⟨ro,s2⟩:=y;rw[yh]at h;simp only at h;have look:∃x,(∃k,qq (λm base p=>cL k true m base p true) m.step re aJ ⟨i,c,g⟩=some x)/\LO P t F nc S re.neg ⟨i,c,g⟩ m.step s1 ro s2 x:=by
     unfold oq at yh;unfold qq;by_cases p7:re.op=7
     ·rw[be p7]at yh;have p8:¬re.op=8:=ae;simp only[ap p8,rR];have Zd:dT (λk st=>cY (eK t F n) (.mk 0 aJ 0 0 .nil) (i+k) c st) 1 s1=some (ro,s2):=by
       simp only[dT];rw[ap (by rw[vh.empty];exact alJ)];cases hf:cY (eK t F n) (.mk 0 aJ 0 0 .nil) i c s1 with
       |none=>rw[hf]at yh;cases yh
       |some z =>
        obtain⟨o,s3⟩:=z;rw[hf]at yh;rw[show i+((0:Nat):Int)=i by omega,hf];cases yh;cases o with
        |none=>rfl
        |some e=>rfl
      exact Bl ih (.tree rfl .nil) hc cQ 1 m.step s1 s2 ro (λq hq=>ae) (λq s _=>⟨λ_=>ZK,λh=>ae,λh=>ae,λh=>ae,λh=>ae,trivial⟩) Na vh.empty vh.s0 vh.s1 Zd
     ·rw[ap p7]at yh;have p8:re.op=8:=ae;simp only[be p8,rR];have Zd:dT (λk st=>cY (eK t F n) (.mk 0 aJ 0 0 (.mk 4 (.mk 0 [] [] 0 0 0 0 false) 0 i .nil)) (0+k) c st) (i.toNat+1) s1=some (ro,s2):=by
       have:(λ(k:Int) (st:bE)=>cY (eK t F n) (.mk 0 aJ 0 0 (.mk 4 (.mk 0 [] [] 0 0 0 0 false) 0 i .nil)) (0+k) c st)=λk st=>cY (eK t F n) (.mk 0 aJ 0 0 (.mk 4 (.mk 0 [] [] 0 0 0 0 false) 0 i .nil)) k c st:=by funext k st;rw[Int.zero_add]
       rw[this];exact yh
      exact Bl ih (.tree rfl (.Vt .nil)) hc cQ (i.toNat+1) m.step s1 s2 ro (λq hq=>ae) (λq s _=>⟨λ_=>ZK,λh=>ae,λh=>ae,λh=>ae,λh=>ae,λh=>absurd rfl h,λh=>ae,λh=>ae,λh=>ae,λh=>ae,trivial⟩) Na vh.empty vh.s0 vh.s1 Zd
    obtain⟨x,⟨k,YR⟩,p1,p2,p3,p4,p5,p6⟩:=look;obtain⟨m2,p',Ww⟩:=x;simp only at p1 p2 p6;refine jI.Cr rfl (oW jy ⟨k,by rw[oo];exact YR⟩) (Yi.trans p1) (jI.qd (s0:=s2) ?_ (alj _) (by rw[p4,Sq]) (by rw[p5,Yh]) ae);have oh:0<=ai->(s2.ends.length:Int)<ai:=by rw[p4];exact vh.ai
    rcases p6 with ⟨e1,e2,rfl⟩|⟨e1,e2,e3,e4⟩
    ·rw[be e1]at h;cases h;exact jI.out p2 e2 e1 oh rfl rfl (alj _)
    ·rw[ap (by rw[e1];exact alJ)]at h;have hS2:SP F ai s2:=⟨e1,by have:=vh.s0;omega,e3,oh⟩
     rcases e4 with ⟨rfl,rfl,rfl⟩|⟨d,rfl,hd,Un,e5⟩
     ·by_cases dQ:re.neg=true
      ·rw[be dQ]at h;rw[dQ];exact go i c s2 m2 b st' e2 hS2 p3 (alj _) ic hc cQ h
      ·rw[ap dQ]at h;have dQ:re.neg=false:=by simpa using dQ
       rw[dQ];cases h;exact jI.no e2 e1 oh e3
     ·rcases e5 with ⟨dQ,rfl⟩|⟨dQ,rfl,rfl⟩
      ·rw[be dQ]at h;cases h;exact jI.no e2 e1 oh e3
      ·rw[ap (by rw[dQ];exact alJ)]at h;exact go i d s2 m2 b st' e2 hS2 p3 (alj _) ic hd Un h
 rw[ap o7]at h;simp only[ap o7]at oo;by_cases o9:re.op=9
 ·rw[be o9]at h;simp only[be o9]at oo;cases hk:re.kids with
  |nil=>rw[hk]at h;cases h
  |cons aJ l =>
   rw[hk]at h;simp only[hk]at oo;simp only at h;have ZK:aJ.every (vB nc)=true:=Sx aJ (by rw[hk];simp);cases hf:cY (eK t F n) (.mk 0 aJ 0 0 .nil) i c s1 with
   |none=>rw[hf]at h;cases h
   |some y =>
    obtain⟨o,s2⟩:=y;rw[hf]at h;simp only at h;obtain⟨m2,rr,found,⟨k,sY⟩,k2,k3,k4,k5,k6,k7⟩:=AW ih (gb:=.mk 0 (.el aJ) 0 0 .nil) Na vh.empty vh.s0 vh.s1 (.tree rfl .nil) ⟨λ_=>ZK,λh=>ae,λh=>ae,λh=>ae,λh=>ae,trivial⟩ hi0 ic hc cQ hf;have hal:my (λm base p=>cL k true m base p true) m.step ⟨i,c,g⟩ (.mk 0 (.el aJ) 0 0 .nil)=some (m2,{ rr with todo:=g },found):=by unfold my;rw[sY]
    refine jI.Cr rfl (oW jy ⟨k,by rw[oo];exact hal⟩) (Yi.trans k2) (jI.qd (s0:=s2) ?_ (alj _) (by rw[k5,Sq]) (by rw[k6,Yh]) ae);have oh:0<=ai->(s2.ends.length:Int)<ai:=by rw[k5];exact vh.ai
    rcases k7 with ⟨j1,j2,j3,⟨rfl,e,d,rfl,rfl,l3,l4,l5,l6⟩|⟨rfl,rfl⟩⟩|⟨j1,j2,rfl,rfl⟩
    ·rw[ap (by rw[j1];exact alJ)]at h;simp only at h;exact(go e d s2 m2 b st' j2 ⟨j1,by have:=vh.s0;omega,j3,oh⟩ k4 l3 l4 l5 l6 h).qd l3 rfl rfl (alj _)
    ·rw[ap (by rw[j1];exact alJ)]at h;cases h;exact jI.no j2 j1 oh j3
    ·rw[be j1]at h;cases h;exact jI.out k3 j2 j1 oh rfl rfl (alj _)
 rw[ap o9]at h;simp only[ap o9]at oo;by_cases yL:re.op=10
 ·rw[be yL]at h;simp only[be yL]at oo;obtain⟨w1,w2⟩:=v5 ae;have lQ:ct c re.n=c.getD (re.n-1).toNat (-1,-1):=by unfold ct;rw[bm]
  rw[lQ]at h
  match hk:re.kids with
  |[]=>rw[hk]at h;cases h
  |[_]=>rw[hk]at h;cases h
  |yes::no::l =>
   rw[hk]at h;simp only[hk]at oo;simp only at h;simp only[ap (show ¬(re.n<1\/(c.length:Int)<re.n) by omega)]at oo;refine mv _ _ oo (gol _ _ b st' (.tree rfl hg) ⟨λ_=>?_,λh=>ae,λh=>ae,λh=>ae,λh=>ae,xz⟩ h);split
   ·exact Sx yes (by rw[hk];simp)
   ·exact Sx no (by rw[hk];simp)
 rw[ap yL]at h;simp only[ap yL]at oo;by_cases mZ:re.op=11
 ·rw[be mZ]at h;simp only[be mZ]at oo;obtain⟨w1,w2⟩:=v6 mZ;rw[WU]at oo;simp only[ap (show ¬(re.n<0\/5<re.n) by omega)]at oo;by_cases q:bY re.n t i=true
  ·rw[be q]at h;rw[q]at oo;exact mv _ _ oo (gol _ _ b st' hg xz h)
  ·rw[ap q]at h;have q:bY re.n t i=false:=by simpa using q
   rw[q]at oo;exact ZcB
 rw[ap mZ]at h;simp only[ap mZ]at oo;exact mv _ _ oo (gol _ _ b st' hg xz h)
end nodes
theorem NI {nc:Int}{re:Re} (h:re.every (vB nc)=true) (m:Int):(re.dJ m).every (vB nc)=true:=by rw[Re.az]at h ⊢;exact⟨h.1,h.2⟩
section all
variable {P:Re}{t:List Int}{F:Int}{nc:Nat} (X:Fx t F nc)
variable{S:List aB}{m:aP}{base:Nat}{ai:Int}{c:aC}{st':bE}{st:bE}{b:Bool}{n:Nat}{i:Int}{fi:Int}{kind:Int}{next:Goal}
include X
theorem Wi (ih:Sim P t F nc n){h:Goal}{g:bt} (hM:MS P t F m S st.steps) (hS:SP F ai st) (hb:base<=S.length)
  (hg:GR P g h) (hk:GK nc i st.steps h) (hi0:0<=i) (ic:i<=t.length) (hc:dz t c) (cQ:c.length=nc) (hr:cw t F (eK t F n) ai (.run h i c) st=some (b,st')):jI P t F nc base S ai i m ⟨i,c,g⟩ true st b st':=by
 have jW:=hS.s0;have dL:=hS.s1;have ZH:c.length<=1000000000:=by rw[cQ];exact X.nc
 have gF:∀gb,m.gF ⟨i,c,gb⟩:=λgb=>hM.gF (p:=⟨i,c,gb⟩) X.ht X.hF jW dL hi0 ic ZH;simp only[cw]at hr;rw[bm]at hr;have same:∀(task:Task),task.pos=i->task.aj=c->(∀rec,rec=eK t F n->rec ai task st=some (b,st'))->TR P task ⟨i,c,g⟩->TK nc st.steps task->jI P t F nc base S ai i m ⟨i,c,g⟩ true st b st':=by intro task hp xY A1 htr yO;have:=ih ai task st b st' (A1 _ rfl) base S m _ hM hS hb htr yO (by rw[hp];exact hi0) (by rw[hp];exact ic) (by rw[xY];exact hc) (by rw[xY];exact cQ);rwa [hp]at this
 cases hg with
 |nil =>
  simp only at hr;split at hr
  case isFalse=>cases hr
  rename_i hlen;obtain⟨tc,BT⟩:=hlen;simp only[alb,alG]at hr;obtain⟨VS,rfl⟩:=hr;have Y7:((st.ends++[i]).length:Int)=st.ends.length+1:=aq;cases b with
  |true =>
   simp only[alo,decide_eq_true_eq]at VS;have:=hS.ai VS.1;exact⟨[(i,c)],m,rfl,rfl,λr hr=>by rw[List.mem_singleton.1 hr];exact⟨alj _,ic,hc,cQ⟩,.refl m,alj _,.inr (.inl ⟨rfl,hS.empty,VS.1,by simp only[Y7];omega,dL,[],[],i,c,by simpa using hM,rfl,.refl _ _ _⟩)⟩
  |false =>
   refine⟨[(i,c)],m,rfl,rfl,λr hr=>by rw[List.mem_singleton.1 hr];exact⟨alj _,ic,hc,cQ⟩,.refl m,alj _,.inl ⟨rfl,hS.empty,λhm=>?_,hM,dL,.zero,.emit hM.cz (.refl _ _ _)⟩⟩;have:=hS.ai hm;simp only[Y7];by_cases hle:ai<=(st.ends.length:Int)+1
   ·rw[bi hm,bi hle]at VS;cases VS
   ·omega
 |@tree r re n0 a k f g0 h0 lu Jj =>
  simp only at hr;rw[ap aF,ap aF,ap aF,ap aF]at hr;obtain⟨k1,k2,k3,k4,k5,k6⟩:=hk;exact same (.node (.mk 0 re k f h0) i c) rfl rfl (λrec eH=>by rw[eH];exact hr) ⟨rfl,rfl,r,n0,a,g0,rfl,lu,Jj⟩ ⟨k1 aF,k6⟩
 |@round r re G8 n0 a f g0 h0 lu ht0 Jj =>
  simp only at hr;rw[be trivial]at hr;obtain⟨k1,k2,k3,k4,k5,k6⟩:=hk;exact same (.rep (.mk 1 G8 n0 f h0) i c) rfl rfl (λrec eH=>by rw[eH];exact hr) ⟨rfl,rfl,.inr ⟨(k2 (.inl rfl)).2.1,r,re,a,g0,rfl,lu,ht0,Jj⟩⟩ ⟨k1 aF,(k2 (.inl rfl)).1,(k2 (.inl rfl)).2.2,k3 rfl,k6⟩
 |@more r re G8 n0 a f g0 h0 lu ht0 fS Jj =>
  simp only at hr;rw[ap aF,be trivial,bm]at hr;split at hr
  ·cases hr
  obtain⟨k1,k2,k3,k4,k5,k6⟩:=hk;have:=k4 rfl;obtain⟨l1,l2,l3⟩:=k2 (.inr rfl);exact same (.run (.mk 1 G8 (n0+1) 0 h0) i c) rfl rfl (λrec eH=>by rw[eH];exact hr) ⟨rfl,rfl,.round lu ht0 Jj⟩ ⟨λ_=>k1 aF,λ_=>⟨l1,l2,ae⟩,λ_=>ae,λh=>ae,λh=>ae,k6⟩
 |@Yc r re G8 n0 a g0 h0 lu ht0 fS Jj =>
  simp only at hr;rw[ap aF,be trivial]at hr;obtain⟨k1,k2,k3,k4,k5,k6⟩:=hk;have:=k4 rfl;have hF:=X.hF;obtain⟨l1,l2,l3⟩:=k2 (.inr rfl);have tX:=Qs (gF (.mk 3 r (n0+1) a g0)) ae ae;by_cases q:i=a
  ·rw[be ⟨fS,q⟩]at hr;rw[be q]at tX;exact Zdp
  ·rw[bm]at hr;rw[ap q]at tX;split at hr
   ·cases hr
   refine jI.Cr rfl tX (.refl m) ?_;exact ih ai _ st b st' hr base S m _ hM hS hb ⟨rfl,rfl,.round lu ht0 Jj⟩ ⟨λ_=>k1 aF,λ_=>⟨l1,l2,ae⟩,λ_=>ae,λh=>ae,λh=>ae,k6⟩ hi0 ic hc cQ
 |@cap r re a k g0 h0 lu Jj =>
  simp only at hr;rw[ap aF,ap aF,be trivial,bm]at hr;obtain⟨k1,k2,k3,k4,k5,k6⟩:=hk;obtain⟨o5,f0,f1⟩:=k5 rfl;obtain⟨⟨_,_,_,_,v5,_,_⟩,_⟩:=AQ (k1 aF);obtain⟨w1,w2⟩:=v5 (.inl o5);have hw:mR c re.n a i=c.set (re.n-1).toNat (a,i):=by unfold mR;rw[be ⟨w1,ae⟩]
  obtain⟨c1,c2⟩:=dz.with (n:=re.n) hc f0 f1 ic;rw[hw]at hr c1 c2;refine jI.Cr rfl (Wd (gF _) (Aw hM lu) w1 ae) (.refl m) ?_;exact ih ai _ st b st' hr base S m _ hM hS hb ⟨rfl,rfl,Jj⟩ k6 hi0 ic c1 (by show (c.set _ _).length=nc;rw[c2];exact cQ)
 |@Vt r re a k g0 h0 Jj =>
  simp only at hr;rw[ap aF,ap aF,ap aF,be trivial]at hr;obtain⟨k1,k2,k3,k4,k5,k6⟩:=hk;have tX:=N6 (r:=r) (g:=g0) (a:=a) (gF _);by_cases q:i=a
  ·rw[be q]at hr;rw[bi q]at tX;refine jI.Cr rfl tX (.refl m) ?_;exact ih ai _ st b st' hr base S m _ hM hS hb ⟨rfl,rfl,Jj⟩ k6 hi0 ic hc cQ
  ·rw[ap q]at hr;rw[ce q]at tX;exact Zdp
theorem Xp (ih:Sim P t F nc n){re:Re}{k:Int}{p:aB} (hM:MS P t F m S st.steps) (hS:SP F ai st) (hb:base<=S.length)
  (htr:TR P (.rep (.mk kind re k fi next) i c) p) (yO:TK nc st.steps (.rep (.mk kind re k fi next) i c)) (hi0:0<=i) (ic:i<=t.length) (hc:dz t c) (cQ:c.length=nc) (hr:sO F (eK t F n) ai re k next i c st=some (b,st')):jI P t F nc base S ai i m p true st b st':=by
 obtain⟨pa,pc,todo⟩:=p;obtain⟨rfl,rfl,htr⟩:=htr;obtain⟨v,o4,k0,k1,hk⟩:=yO;have jW:=hS.s0;have dL:=hS.s1;rcases htr with ⟨hm,r,n0,a,g,Y4,lu,Jj⟩|⟨hm,r,Q5,a,g,Y4,lu,ht0,Jj⟩
 ·simp only at Y4;subst Y4;unfold sO at hr;rw[be hm]at hr;have jy:=hM.gF (p:=⟨pa,pc,.mk 0 r n0 a g⟩) X.ht X.hF jW dL hi0 ic (by show pc.length<=_;rw[cQ];exact X.nc);have hmm:(re.dJ 0).mode≠2:=by simp [Re.dJ,Re.mode]
  cases hf:cY (eK t F n) (.mk 1 (re.dJ 0) 0 0 .nil) pa pc st with
  |none=>rw[hf]at hr;cases hr
  |some y =>
   obtain⟨o,s2⟩:=y;rw[hf]at hr;simp only at hr;obtain⟨m2,rr,found,⟨kk,sY⟩,k2,k3,k4,k5,k6,k7⟩:=AW ih (gb:=.mk 2 r 0 0 .nil) hM hS.empty jW dL (.round lu (.inr ⟨hm,rfl⟩) .nil) ⟨λ_=>NI v 0,λ_=>⟨o4,hmm,alj _⟩,λ_=>jW,λh=>ae,λh=>ae,trivial⟩ hi0 ic hc cQ hf;have hal:my (λm base p=>cL kk true m base p true) m ⟨pa,pc,g⟩ (.mk 2 r 0 0 .nil)=some (m2,{ rr with todo:=g },found):=by unfold my;rw[sY]
   obtain⟨⟨v1,v2,v3,v4,v5,v6,_⟩,Sx⟩:=AQ v;refine jI.Cr rfl (oW jy (y:=(m2,{ rr with todo:=g },found)) ⟨kk,?_⟩) k2 (jI.qd (s0:=s2) ?_ (alj _) k5 k6 k4)
   ·unfold kS;rw[Aw hM lu];simp only;rw[bm,be o4,be hm];exact hal
   have oh:0<=ai->(s2.ends.length:Int)<ai:=by rw[k5];exact hS.ai
   rcases k7 with ⟨j1,j2,j3,⟨rfl,e,d,rfl,rfl,l3,l4,l5,l6⟩|⟨rfl,rfl⟩⟩|⟨j1,j2,rfl,rfl⟩
   ·simp only at hr;have:=ih ai _ s2 b st' hr base S m2 ⟨e,d,g⟩ j2 ⟨j1,ae,j3,oh⟩ hb ⟨rfl,rfl,Jj⟩ (hk.mono l3 k4) (by show (0:Int)<=e;have:(0:Int)<=pa:=hi0;omega) l4 l5 l6;exact this.qd l3 rfl rfl (alj _)
   ·simp only at hr;cases hr;rw[j1];exact jI.no j2 j1 oh j3
   ·simp only at hr;cases hr;rw[j1];exact jI.out k3 j2 j1 oh rfl rfl (alj _)
 ·simp only at Y4;subst Y4;exact Wg X ih hM hS hb lu ht0 Jj v o4 hm k0 k1 hk hi0 ic hc cQ hr
theorem Tu (ih:Sim P t F nc n){re:Re}{k:Int}{p:aB} (hM:MS P t F m S st.steps) (hS:SP F ai st) (hb:base<=S.length)
  (htr:TR P (.node (.mk kind re k fi next) i c) p) (yO:TK nc st.steps (.node (.mk kind re k fi next) i c)) (hi0:0<=i) (ic:i<=t.length) (hc:dz t c) (cQ:c.length=nc) (hr:cw t F (eK t F n) ai (.node (.mk kind re k fi next) i c) st=some (b,st')):jI P t F nc base S ai i m p true st b st':=by
 obtain⟨pa,pc,todo⟩:=p;obtain⟨rfl,rfl,r,n0,a,g,Y4,lu,Jj⟩:=htr;simp only at Y4;subst Y4;obtain⟨v,hk⟩:=yO;have jW:=hS.s0;have dL:=hS.s1;obtain⟨⟨v1,v2,v3,v4,v5,v6,_⟩,Sx⟩:=AQ v;have hF:=X.hF;simp only[cw]at hr;have hi0:0<=pa:=hi0;have ic:pa<=t.length:=ic;have hc:dz t pc:=hc;have cQ:pc.length=nc:=cQ;rw[bm]at hr;by_cases o4:re.op=4
 ·rw[be o4]at hr;by_cases hm:re.mode=2
  ·exact ih ai _ st b st' hr base S m _ hM hS hb ⟨rfl,rfl,.inl ⟨hm,r,n0,a,g,rfl,lu,Jj⟩⟩ ⟨v,o4,alj _,jW,hk⟩ hi0 ic hc cQ
  ·have jy:=hM.gF (p:=⟨pa,pc,.mk 0 r n0 a g⟩) X.ht X.hF jW dL hi0 ic (by show pc.length<=_;rw[cQ];exact X.nc);refine jI.Cr rfl (oW jy (y:=(m,⟨pa,pc,.mk 2 r 0 0 g⟩,true)) ⟨0,?_⟩) (.refl m) ?_
   ·unfold kS;rw[Aw hM lu];simp only;rw[bm,be o4,ap hm];rfl
   ·exact ih ai _ st b st' hr base S m _ hM hS hb ⟨rfl,rfl,.inr ⟨hm,r,re,0,g,rfl,lu,.inl ⟨rfl,hm⟩,Jj⟩⟩ ⟨v,o4,alj _,jW,hk⟩ hi0 ic hc cQ
 ·rw[ap o4,ap (by rw[cQ];have:=X.nc;omega),bm]at hr;exact Tn X ih hM hS hb lu Jj v o4 hk hi0 ic hc cQ hr
theorem PA:∀n,Sim P t F nc n
 |0=>λ_ _ _ _ _ h=>by cases h
 |n+1=>λai task st b st' h base S m p hM hS hb htr yO hi0 ic hc cQ=>by
  have ih:=PA n;have h:cw t F (eK t F n) ai task st=some (b,st'):=h;cases task with
  |run g i c =>
   obtain⟨pa,pc,todo⟩:=p;obtain⟨rfl,rfl,hg⟩:=htr;exact Wi X ih hM hS hb hg yO hi0 ic hc cQ h
  |rep g i c =>
   cases g with
   |nil=>exact htr.elim
   |mk kind re k fi next =>
    refine Xp X ih hM hS hb htr yO hi0 ic hc cQ ?_;simp only[cw]at h;rw[ap (by have h1:0<=i:=hi0;have h2:i<=t.length:=ic;omega)]at h;exact h
  |node g i c =>
   cases g with
   |nil=>exact htr.elim
   |mk kind re k fi next=>exact Tu X ih hM hS hb htr yO hi0 ic hc cQ h
end all
variable{o:Int}{i:Int}{t:List Int}{x:Int}{y:Int×Int}{l:List (Int×Int)}{m:aP}{s:List VL.Obj}{og:Nat}{own:List Int}{n:Int}{bM:Nat}{k:Nat}{kind:Int}{K:V->List VL.Obj->Prop}{gp:Nat}{at_:Int}{b:Nat}{g:Nat}{cargs:List V}{f:FuncId}{a:Nat}{aj:Int}{top:Int}{fuel:Int}{p:fU}
def aB.v (b a:Nat) (p:aB):V:=.ag ((p.cells b a).map .d)
abbrev zM:=am @i64.eq_1 @bV.eq_1 @iD.eq_1 @bD.eq_1 @List.cons_append.{0} @List.nil_append.{0} @List.map_cons.{0,0}<|And.intro @List.map_nil.{0,0}<|And.intro @aB.v.eq_1 @aB.cells.eq_1
def cj (b a:Nat) (p:aB) (x:Bool):V:=.tu [p.v b a,bV x]
theorem Ic (g b a:Nat) (m:aP) (p:aB) (h0:m.top<=m.iq.length) (h1:m.top<=1200000000000) :
  av prog 103 [.pp 0 g 0 0 b a,p.v b a] (m.bw g b a) λv s=>v=.tu []/\s=(m.push p).bw g b a:=by
 unfold aP.bw aP.aQ;refine br func103 ntmps103 results103 3 11 ?_;simp only[zX,simprocAttr,aB.v,aB.cells,ak8,ak9,i64,bV,Re.ah,iD,bD];refine cP mix [] [(2,[0],[]),(3,[0],[]),(4,[0],[]),(8,[1],[1]),(9,[0],[]),(10,[0],[]),(11,[0],[0])] ?_;simp only[zI,simprocAttr,bV,Re.ah,iD,bD];refine⟨rfl,aq,⟨ae,ae⟩,?_⟩;refine cP mix [] [(2,[0],[]),(3,[0],[]),(4,[0],[]),(6,[0],[]),(7,[0],[]),(8,[0],[]),(11,[0],[]),(12,[0],[]),(13,[0],[0])] ?_;simp only[zI,simprocAttr,bV,Re.ah,iD,bD];have e:List.take m.top (m.iq.map (Pg b a))++[[V.d (D.sc (Value.int IntKind.i64 p.at_)),V.d (bS p.aj),V.d (bt.d b a p.todo)]]=(m.push p).iq.map (Pg b a):=by simp only[aP.push,amp,List.map_take];rfl
 rw[e];exact⟨aG (m.push p) b a,rfl⟩
theorem ajz (h:o=1):decide (o=1)=true/\decide (o=2)=false/\decide (o=3)=false/\decide (o=4)=false/\decide (o=5)=false/\decide (o=6)=false/\decide (o=7)=false/\decide (o=8)=false/\decide (o=9)=false/\decide (o=10)=false/\decide (o=11)=false:=by subst h;decide
theorem ajA (h:o=2):decide (o=1)=false/\decide (o=2)=true/\decide (o=3)=false/\decide (o=4)=false/\decide (o=5)=false/\decide (o=6)=false/\decide (o=7)=false/\decide (o=8)=false/\decide (o=9)=false/\decide (o=10)=false/\decide (o=11)=false:=by subst h;decide
theorem ajj (h:o=3):decide (o=1)=false/\decide (o=2)=false/\decide (o=3)=true/\decide (o=4)=false/\decide (o=5)=false/\decide (o=6)=false/\decide (o=7)=false/\decide (o=8)=false/\decide (o=9)=false/\decide (o=10)=false/\decide (o=11)=false:=by subst h;decide
theorem ajP (h:o=4):decide (o=1)=false/\decide (o=2)=false/\decide (o=3)=false/\decide (o=4)=true/\decide (o=5)=false/\decide (o=6)=false/\decide (o=7)=false/\decide (o=8)=false/\decide (o=9)=false/\decide (o=10)=false/\decide (o=11)=false:=by subst h;decide
theorem ai2 (h:o=5):decide (o=1)=false/\decide (o=2)=false/\decide (o=3)=false/\decide (o=4)=false/\decide (o=5)=true/\decide (o=6)=false/\decide (o=7)=false/\decide (o=8)=false/\decide (o=9)=false/\decide (o=10)=false/\decide (o=11)=false:=by subst h;decide
theorem ajg (h:o=6):decide (o=1)=false/\decide (o=2)=false/\decide (o=3)=false/\decide (o=4)=false/\decide (o=5)=false/\decide (o=6)=true/\decide (o=7)=false/\decide (o=8)=false/\decide (o=9)=false/\decide (o=10)=false/\decide (o=11)=false:=by subst h;decide
theorem ajO (h:o=7):decide (o=1)=false/\decide (o=2)=false/\decide (o=3)=false/\decide (o=4)=false/\decide (o=5)=false/\decide (o=6)=false/\decide (o=7)=true/\decide (o=8)=false/\decide (o=9)=false/\decide (o=10)=false/\decide (o=11)=false:=by subst h;decide
theorem ajq (h:o=8):decide (o=1)=false/\decide (o=2)=false/\decide (o=3)=false/\decide (o=4)=false/\decide (o=5)=false/\decide (o=6)=false/\decide (o=7)=false/\decide (o=8)=true/\decide (o=9)=false/\decide (o=10)=false/\decide (o=11)=false:=by subst h;decide
theorem ajs (h:o=9):decide (o=1)=false/\decide (o=2)=false/\decide (o=3)=false/\decide (o=4)=false/\decide (o=5)=false/\decide (o=6)=false/\decide (o=7)=false/\decide (o=8)=false/\decide (o=9)=true/\decide (o=10)=false/\decide (o=11)=false:=by subst h;decide
theorem ahh (h:o=10):decide (o=1)=false/\decide (o=2)=false/\decide (o=3)=false/\decide (o=4)=false/\decide (o=5)=false/\decide (o=6)=false/\decide (o=7)=false/\decide (o=8)=false/\decide (o=9)=false/\decide (o=10)=true/\decide (o=11)=false:=by subst h;decide
theorem ahU (h:o=11):decide (o=1)=false/\decide (o=2)=false/\decide (o=3)=false/\decide (o=4)=false/\decide (o=5)=false/\decide (o=6)=false/\decide (o=7)=false/\decide (o=8)=false/\decide (o=9)=false/\decide (o=10)=false/\decide (o=11)=true:=by subst h;decide
theorem XJ (h0:0<=i) (h1:i<t.length):(t.map λx=>[V.d (D.sc (Value.int IntKind.i64 x))])[i.toNat]?=some [V.d (D.sc (Value.int IntKind.i64 (lK t i)))]:=by rw[List.getElem?_map,nK h0 h1];rfl
theorem XL{i:Nat} (hy:l[i]?=some y) (h1:y.1<=x) (h2:x<=y.2):yP l x=true:=by unfold yP;rw[List.any_eq_true];exact⟨y,List.mem_of_getElem? hy,by rw[bi h1,bi h2];rfl⟩
theorem PF{i:Nat} (hy:l[i]?=some y) (h:yP (l.take i) x=false) (hn:¬(y.1<=x/\x<=y.2)):yP (l.take (i+1)) x=false:=by
 rw[bn hy];unfold yP at h ⊢;rw[List.any_append,h];have:(decide (y.1<=x)&&decide (x<=y.2))=false:=by rw[alP];intro hc;simp only[alo,decide_eq_true_eq]at hc;exact hn hc
 simp [this]
theorem ft{r:bQ}{re:Re} (h:m.lit r=some re):(r=.root/\m.p.re=re)\/r=.el re:=by
 cases r with
 |nil=>cases h
 |root=>exact .inl ⟨rfl,amx h⟩
 |el x=>exact .inr (congrArg bQ.el (amx h))
theorem XR (g b a:Nat) (m:aP) (r:bQ) (re:Re) (p:aB) (hr:m.lit r=some re) (fB:re.set.length<=1000000000) (hp:0<=p.at_) (ht:m.t.length<=1000000) (hs:m.same) :
  av prog 122 [.pp 0 g 0 0 b a,.d (r.d b a),p.v b a] (m.bw g b a) λv s=>v=cj b a (EZ m.t re p).1 (EZ m.t re p).2/\s=m.bw g b a:=by
 have hOT:(m.bw g b a=m.aQ g b a (.d (ar m.t))/\(p.at_<m.t.length->m.t[p.at_.toNat]?=some (lK m.t p.at_)))\/(m.bw g b a=m.aQ g b a (.so 2 m.nU 0 m.t.length)/\(p.at_<m.t.length->(m.own.map λx=>[V.d (D.sc (Value.int IntKind.i64 x))])[p.at_.toNat]?=some [V.d (D.sc (Value.int IntKind.i64 (lK m.t p.at_)))])):=by
  cases hT:m.dS with
  |true=>exact .inr ⟨I8 hT,λhq=>by rw[hs hT];exact XJ hp hq⟩
  |false=>exact .inl ⟨IU hT,λhq=>nK hp hq⟩
 obtain⟨Q,hQ⟩:∃Q,Q=re.set:=⟨_,rfl⟩
 rw[<- hQ]at fB;have hM:=ke m b a (.d (ar m.t)) rfl;by_cases hq:p.at_<m.t.length
 ·have FB:EZ m.t re p=if yP Q (lK m.t p.at_)=true then ({ p with at_:=p.at_+1 },true) else (.zero,false):=by rw[EZ,hQ];simp only[hq,true_and]
  rw[FB];have Cf:¬(m.t.length:Int)<=p.at_:=ae;have w1:IntKind.i64.wrap (p.at_+1)=p.at_+1:=bK _ ae;rcases hOT with ⟨hO,Ty⟩|⟨hO,Ty⟩ <;> rcases ft hr with ⟨rfl,rk⟩|rfl;all_goals
   have Ty:=Ty hq;try rw[<- rk]at hQ
   rw[hO];unfold aP.aQ;try simp only[ar]
   refine br func122 ntmps122 results122 3 15032387047 ?_;simp only[zX,simprocAttr,zM,Re.ah];refine cP mix [] [(3,[0],[]),(4,[0],[]),(5,[0],[]),(6,[2],[]),(0,[3],[]),(1,[3],[])] ?_;simp only[zX,simprocAttr,zM,Cf,ge_iff_le,Re.ah];refine cP mix [] [(1,[0],[]),(2,[0],[]),(3,[0],[]),(4,[3],[]),(5,[3],[]),(6,[2],[]),(7,[2],[])] ?_;simp only[zX,simprocAttr,zM,Re.ah,bQ.d,hp,hq,Ty,alc];refine ay (λn e s=>∃i:Nat,n=Q.length-i/\i<=Q.length/\e 0=.pp 0 g 0 0 b a/\e 5=.rf 3 0 0 0/\e 6=.rf 4 0 0 0/\e 8=i64 (lK m.t p.at_)/\e 31=.d (.sl (Q.map aU))/\e 32=i64 Q.length/\e 33=i64 i /\
     s=m.bw g b a++[⟨0,true,3,[(p.cells b a).map .d]⟩,⟨0,true,3,[[.d (iD 0),.fu [],.d (.sc (.pointer none))]]⟩]/\yP (Q.take i) (lK m.t p.at_)=false)
    ⟨_,_,_,bO.refl,0,by rw[hQ],ae,rfl,rfl,rfl,rfl,by rw[hQ];rfl,by rw[hQ];rfl,rfl,by rw[hO];rfl,rfl⟩ ?_
   rintro n e s ⟨i,rfl,hi,h0,h5,h6,h8,ON,xI,h33,rfl,iL⟩;rw[hO];unfold aP.aQ;try simp only[ar]
   rcases alw i Q.length with aE|gE
   ·obtain⟨y,hy⟩:∃y,Q[i]?=some y:=cb aE;by_cases c1:y.1<=lK m.t p.at_
    ·by_cases c2:lK m.t p.at_<=y.2
     ·rw[XL hy c1 c2];simp only[zX,simprocAttr,zM,Re.ah,h0,h5,h6,h8,ON,xI,h33,aE,hy,aU,c1,c2,w1];exact⟨hM,rfl⟩
     ·simp only[zX,simprocAttr,zM,Re.ah,h0,h5,h6,h8,ON,xI,h33,aE,hy,aU,c1,c2];refine⟨Q.length-(i+1),_,_,ae,bO.cut (s':=m.bw g b a++[⟨0,true,3,[(p.cells b a).map .d]⟩,⟨0,true,3,[[.d (iD 0),.fu [],.d (.sc (.pointer none))]]⟩]) 5 ae (by rw[hO];rfl) ?_ [0,5,6,8,31,32,33] ?_,i+1,rfl,aE,?_,?_,?_,?_,?_,?_,?_,by rw[hO];rfl,PF hy iL (λh=>c2 h.2)⟩ <;> (try simp only[zU,Ft,qa,qe,Fp,reduceIte])
      ·rw[hO,amm,rn g b a m _ 5 ae rfl];rfl
      ·simp [ca,aZ,ak,i64,h0,h5,h6,h8,ON,xI,h33]
      ·exact h0
      ·exact h5
      ·exact h6
      ·exact h8
      ·exact ON
      ·exact xI
      ·rw[bK _ ae];rfl
    ·simp only[zX,simprocAttr,zM,Re.ah,h0,h5,h6,h8,ON,xI,h33,aE,hy,aU,c1];refine⟨Q.length-(i+1),_,_,ae,bO.cut (s':=m.bw g b a++[⟨0,true,3,[(p.cells b a).map .d]⟩,⟨0,true,3,[[.d (iD 0),.fu [],.d (.sc (.pointer none))]]⟩]) 5 ae (by rw[hO];rfl) ?_ [0,5,6,8,31,32,33] ?_,i+1,rfl,aE,?_,?_,?_,?_,?_,?_,?_,by rw[hO];rfl,PF hy iL (λh=>c1 h.1)⟩ <;> (try simp only[zU,Ft,qa,qe,Fp,reduceIte])
     ·rw[hO,amm,rn g b a m _ 5 ae rfl];rfl
     ·simp [ca,aZ,ak,i64,h0,h5,h6,h8,ON,xI,h33]
     ·exact h0
     ·exact h5
     ·exact h6
     ·exact h8
     ·exact ON
     ·exact xI
     ·rw[bK _ ae];rfl
   ·have eg:i=Q.length:=by omega
    subst eg;rw[alr]at iL;rw[iL];simp only[zX,simprocAttr,zM,Re.ah,h0,h5,h6,h8,ON,xI,h33,al5,alk,if_false];exact⟨hM,rfl⟩
 ·have FB:EZ m.t re p=(.zero,false):=by rw[EZ,ap (λh=>hq h.1)]
  rw[FB];have Cf:(m.t.length:Int)<=p.at_:=ae;rcases hOT with ⟨hO,_⟩|⟨hO,_⟩
  all_goals
   rw[hO];unfold aP.aQ;try simp only[ar]
   refine br func122 ntmps122 results122 3 15032387047 ?_;simp only[zX,simprocAttr,zM,Re.ah];refine cP mix [] [(3,[0],[]),(4,[0],[]),(5,[0],[]),(6,[2],[]),(0,[3],[]),(1,[3],[])] ?_;simp only[zX,simprocAttr,zM,Cf,ge_iff_le,Re.ah];exact⟨hM,rfl⟩
theorem NB (a b:List Int) (ha:a.length<=1000000000):aS prog 136 [.d (ar a),.d (ar b)] (bV (decide (a=b))):=by
 refine br func136 ntmps136 results136 0 12339 ?_;by_cases hl:a.length=b.length
 ·have hli:(a.length:Int)=b.length:=by omega
  simp only[zI,simprocAttr,bV,ar,hli,ne_eq,not_true_eq_false,if_false];refine ay (λn e s=>∃i:Nat,n=a.length-i/\i<=a.length/\e 0=.d (ar a)/\e 1=.d (ar b)/\e 12=i64 a.length/\e 13=i64 i/\s=[]/\a.take i=b.take i)
   ⟨_,_,_,bO.refl,0,rfl,ae,rfl,rfl,?_,rfl,rfl,rfl⟩ ?_
  ·rw[hli];rfl
  rintro n e s ⟨i,rfl,hi,h0,h1,jk,mE,rfl,he⟩;rcases alw i a.length with aE|gE
  ·obtain⟨x,hx⟩:∃x,a[i]?=some x:=cb aE;obtain⟨y,hy⟩:∃y,b[i]?=some y:=cb;have JO:i<b.length:=ae;by_cases c:x=y
   ·subst c;simp only[zI,simprocAttr,bV,ar,iD,h0,h1,jk,mE,aE,JO,hx,hy,ne_eq,not_true_eq_false];refine cP mix [] [] ?_;simp only[zI,simprocAttr,bV,ar,iD,h0,h1,jk,mE,aE,JO,hx,hy,ne_eq,not_true_eq_false];refine⟨a.length-(i+1),_,_,ae,bO.refl,i+1,rfl,aE,?_,?_,?_,?_,rfl,?_⟩ <;> (try simp only[zU,Ft,qa,qe,Fp,reduceIte])
    ·exact h0
    ·exact h1
    ·exact jk
    ·rw[bK _ ae];rfl
    ·rw[bn hx,bn hy,he]
   ·have eX:¬a=b:=by intro h;rw[h]at hx;rw[hx]at hy;exact c (amx hy)
    rw[ce eX];simp only[zI,simprocAttr,bV,ar,iD,h0,h1,jk,mE,aE,JO,hx,hy,ne_eq,c,not_false_eq_true];refine cP mix [] [] ?_;simp only[zI,simprocAttr,bV,ar,iD,h0,h1,jk,mE,aE,JO,hx,hy,ne_eq,c,not_false_eq_true];all_goals exact dX
  ·have hia:i=a.length:=by omega
   subst hia;rw[alr,hl,alr]at he;rw[bi he];simp only[zI,simprocAttr,bV,ar,iD,h0,h1,jk,mE,al5];all_goals exact dX
 ·have hli:¬(a.length:Int)=b.length:=by omega
  have eX:¬a=b:=λh=>hl (by rw[h]);rw[ce eX];simp only[zI,simprocAttr,bV,ar,hli,ne_eq,not_false_eq_true,if_true];all_goals exact dX
theorem H4 {t:List Int}{a i:Nat}:∀{n:Nat},a+n<=t.length->i+n<=t.length->decide ((t.drop a).take n=(t.drop i).take n)=jv t a i n
 |0,_,_=>by simp [jv]
 |n+1,h1,h2=>by
  have e:∀k:Nat,k+(n+1)<=t.length->(t.drop k).take (n+1)=(t.drop k).take n++[lK t ((k:Int)+(n:Int))]:=by
   intro k hk;have hx:(t.drop k)[n]?=some (lK t ((k:Int)+(n:Int))):=by rw[List.getElem?_drop];have:=nK (t:=t) (i:=(k:Int)+(n:Int)) ae ae;rw[show ((k:Int)+(n:Int)).toNat=k+n by omega]at this;exact this
   exact bn hx
  rw[e a h1,e i h2,Fa,<- H4 (n:=n) ae ae];rw[Bool.eq_iff_iff];simp only[decide_eq_true_eq,alo,beq_iff_eq];constructor
  ·intro h;have:=List.append_inj' h rfl;exact⟨this.1,by simpa using this.2⟩
  ·rintro ⟨h,h'⟩;rw[h,h']
theorem Qb {α:Type} (f:α->D) (k bM:Nat) (s:List VL.Obj):∀L:List α,((L.map λx=>[V.d (f x)]).mapM λ(e:List V)=>e.mapM (cJ (k+1) bM s))=some (L.map λx=>[f x])
 |[]=>rfl
 |x::L=>by rw[ak8,ami,Qb f k bM s L];rfl
theorem IM {lo n:Nat} (hs:s[2]?=some ⟨og,false,1,own.map λx=>[V.d (iD x)]⟩) (h:lo+n<=own.length):bq bM s (.so 2 og lo n)=some (.d (ar ((own.drop lo).take n))):=by unfold bq;simp only[cJ,hs];rw[be (by simpa using h),<- List.map_drop,<- List.map_take,Qb];rfl
theorem Lh {n:Nat} (h:n=0):bq bM s (.d (.sl []))=some (.d (ar ((own.drop k).take n))):=by subst h;rfl
theorem WS{v w:V}{x y:D} (hv:bq bM s v=some (.d x)) (hw:bq bM s w=some (.d y)):bq.go bM s [v,w]=some [.d x,.d y]:=by simp only[bq.go,hv,hw]
theorem getD_some {α:Type}{l:List α}{i:Nat}{x d:α} (h:l[i]?=some x):l.getD i d=x:=by rw[List.getD,h];rfl
theorem XB (g b a:Nat) (m:aP) (r:bQ) (re:Re) (p:aB) (hr:m.lit r=some re) {x:aB×Bool} (hx:Of m.t re p=some x) (hc:p.aj.length<=1000000000) (hp:0<=p.at_) (hp':p.at_<=m.t.length) (ht:m.t.length<=1000000) (hs:m.same) :
  av prog 123 [.pp 0 g 0 0 b a,.d (r.d b a),p.v b a] (m.bw g b a) λv s=>v=cj b a x.1 x.2/\s=m.bw g b a:=by
 unfold Of at hx;by_cases hn:re.n<1\/(p.aj.length:Int)<re.n
 ·rw[be hn]at hx;cases hx
 rw[ap hn]at hx;obtain⟨⟨y1,y2⟩,qf⟩:∃y,p.aj[(re.n-1).toNat]?=some y:=cb;rw[getD_some qf]at hx;simp only at hx;by_cases hb:y1 < -1000000\/y2 < -1000000\/1000000<y1\/1000000<y2
 ·rw[be hb]at hx;cases hx
 rw[ap hb]at hx;have w0:IntKind.i64.wrap (re.n-1)=re.n-1:=bK _ ae;have w1:IntKind.i64.wrap (y2-y1)=y2-y1:=bK _ ae;have w2:IntKind.i64.wrap ((m.t.length:Int)-p.at_)=m.t.length-p.at_:=bK _ ae;have fS:0<=re.n-1:=ae;have xz:re.n-1<(p.aj.length:Int):=ae;have hM:=ke m b a (.d (ar m.t)) rfl;have hOT:(m.bw g b a=m.aQ g b a (.d (ar m.t))/\m.t=m.t)\/(m.bw g b a=m.aQ g b a (.so 2 m.nU 0 m.t.length)/\m.own=m.t):=by
  cases hT:m.dS with
  |true=>exact .inr ⟨I8 hT,hs hT⟩
  |false=>exact .inl ⟨IU hT,rfl⟩
 by_cases hq:y1<0\/(m.t.length:Int)-p.at_<y2-y1
 ·rw[be hq]at hx;cases hx;rcases hOT with ⟨hO,_⟩|⟨hO,_⟩ <;> rcases ft hr with ⟨rfl,rfl⟩|rfl;all_goals
   rw[hO];unfold aP.aQ;try simp only[ar]
   refine br func123 ntmps123 results123 3 999 ?_;simp only[zX,simprocAttr,-FF,zM,bQ.d];refine aW cr.bu ?_;refine cP mix [] [(0,[3],[]),(1,[3],[]),(3,[0],[]),(4,[0],[]),(5,[0],[]),(9,[5],[5]),(10,[5],[5])] ?_;simp only[zX,simprocAttr,-FF,zM,Re.ah,hole,w0,w1,fS,xz,qf,bS,aU];refine⟨aF,aF,?_⟩;by_cases q1:y1<0
   ·refine cP mix [] [(0,[5],[]),(1,[5],[]),(6,[0],[]),(7,[0],[]),(8,[0],[]),(9,[2],[]),(10,[3],[]),(11,[3],[])] ?_;simp only[zX,simprocAttr,-FF,zM,w1,q1];exact⟨aF,hM,rfl⟩
   ·have q2:(m.t.length:Int)-p.at_<y2-y1:=by omega
    refine cP mix [] [(0,[5],[]),(1,[5],[]),(6,[0],[]),(7,[0],[]),(8,[0],[]),(9,[2],[]),(10,[3],[]),(11,[3],[])] ?_;simp only[zX,simprocAttr,-FF,zM,w1,w2,q1,q2,gt_iff_lt];exact⟨aF,hM,rfl⟩
 rw[ap hq]at hx;by_cases hq2:y2<y1\/(m.t.length:Int)<y2
 ·rw[be hq2]at hx;cases hx
 rw[ap hq2]at hx;obtain⟨x1,rfl⟩:=amg (show 0<=y1 by omega);obtain⟨x2,rfl⟩:=amg (show 0<=y2 by omega);obtain⟨i,hi⟩:=amg hp;rw[show ((x2:Int)-(x1:Int)).toNat=x2-x1 by omega,hi]at hx;have hv:cj b a x.1 x.2=if jv m.t x1 i (x2-x1)=true then cj b a { p with at_:=p.at_+((x2:Int)-x1) } true else cj b a .zero false:=by
  by_cases hh:jv m.t x1 i (x2-x1)=true
  ·rw[be hh]at hx ⊢;cases hx;rw[hi]
  ·rw[ap hh]at hx ⊢;cases hx;rfl
 rw[hv];clear hx hv;have w3:IntKind.i64.wrap (p.at_+((x2:Int)-x1))=p.at_+((x2:Int)-x1):=bK _ ae;have q1:¬(x1:Int)<0:=ae;have q2:¬(m.t.length:Int)-p.at_<(x2:Int)-x1:=ae;have l1:(0:Int)<=(x1:Int):=ae;have l2:(x1:Int)<=(x2:Int):=ae;have l3:(x2:Int)<=(m.t.length:Int):=ae;have l5:p.at_<=p.at_+((x2:Int)-x1):=ae;have l6:p.at_+((x2:Int)-x1)<=(m.t.length:Int):=ae;have e1:((x2:Int)-x1).toNat=x2-x1:=ae;have e2:(p.at_+((x2:Int)-x1)-p.at_).toNat=x2-x1:=ae;have e3:p.at_.toNat=i:=ae;have YG:=H4 (t:=m.t) (a:=x1) (i:=i) (n:=x2-x1) ae ae;have hE:=NB ((m.t.drop x1).take (x2-x1)) ((m.t.drop i).take (x2-x1)) cV;rw[YG]at hE;rcases hOT with ⟨hO,_⟩|⟨hO,hs⟩
 ·have h1l:∀e∈m.t.map (λx=>[D.sc (Value.int IntKind.i64 x)]),e.length=1:=by intro e he;obtain⟨y,_,rfl⟩:=List.mem_map.1 he;rfl
  simp only[ar,List.map_take,List.map_drop,bV,iD]at hE;rcases ft hr with ⟨rfl,rfl⟩|rfl;all_goals
   rw[hO];unfold aP.aQ;simp only[ar];refine br func123 ntmps123 results123 3 999 ?_;simp only[zX,simprocAttr,-FF,zM,bQ.d];refine aW cr.bu ?_;refine cP mix [] [(0,[3],[]),(1,[3],[]),(3,[0],[]),(4,[0],[]),(5,[0],[]),(9,[5],[5]),(10,[5],[5])] ?_;simp only[zX,simprocAttr,-FF,zM,Re.ah,hole,w0,w1,fS,xz,qf,bS,aU];refine⟨aF,aF,?_⟩;refine cP mix [] [(0,[5],[]),(1,[5],[]),(6,[0],[]),(7,[0],[]),(8,[0],[]),(9,[2],[]),(10,[3],[]),(11,[3],[])] ?_;simp only[zX,simprocAttr,-FF,zM,w1,w2,q1,q2,gt_iff_lt];refine⟨aF,?_⟩;refine cP mix [20] [(1,[0],[]),(2,[0],[]),(3,[0],[]),(4,[5],[]),(5,[5],[]),(6,[5],[]),(7,[5],[]),(8,[2],[]),(10,[0],[]),(11,[0],[]),(12,[0],[]),(13,[3],[]),(14,[3],[]),(15,[3],[]),(16,[3],[]),(19,[2],[])] ?_;simp only[zX,simprocAttr,-FF,zM,w1,w3,hp,l1,l2,l3,l5,l6,ak4,e1,e2,e3,ak7];refine⟨aF,aF,.inr h1l,.inr h1l,cU (dk hE ⟨rfl,rfl⟩) ?_⟩;cases UH:jv m.t x1 i (x2-x1);all_goals
    simp only[zX,simprocAttr,-FF,zM,w1,w3,UH,alh,ali,alk];exact⟨hM,rfl⟩
 ·have hle:m.t.length<=m.own.length:=by rw[hs];exact ale _
  have yH:min m.t.length m.own.length=m.t.length:=ae;have F:(x1<x2/\(x1:Int)<(x2:Int)/\p.at_<p.at_+((x2:Int)-x1))\/(x2-x1=0/\(¬(x1:Int)<(x2:Int))/\(¬p.at_<p.at_+((x2:Int)-x1))/\(((x1:Int)=0)=True)/\((p.at_=0)=True))\/(x2-x1=0/\(¬(x1:Int)<(x2:Int))/\(¬p.at_<p.at_+((x2:Int)-x1))/\(((x1:Int)=0)=True)/\((p.at_=0)=False)) \/
    (x2-x1=0/\(¬(x1:Int)<(x2:Int))/\(¬p.at_<p.at_+((x2:Int)-x1))/\(((x1:Int)=0)=False)/\((p.at_=0)=True))\/(x2-x1=0/\(¬(x1:Int)<(x2:Int))/\(¬p.at_<p.at_+((x2:Int)-x1))/\(((x1:Int)=0)=False)/\((p.at_=0)=False)):=by
   by_cases z1:(x1:Int)=0 <;> by_cases z2:p.at_=0 <;> simp only[z1,z2,and_true,and_false,or_false,false_or,eq_self_iff_true] <;> omega
  simp only[bV]at hE;rw[<- hs,show jv m.own=jv m.t by rw[hs]]at hE;rcases ft hr with ⟨rfl,rfl⟩|rfl;all_goals
   rw[hO];unfold aP.aQ;refine br func123 ntmps123 results123 3 999 ?_;simp only[zX,simprocAttr,-FF,zM,bQ.d];refine aW cr.bu ?_;refine cP mix [] [(0,[3],[]),(1,[3],[]),(3,[0],[]),(4,[0],[]),(5,[0],[]),(9,[5],[5]),(10,[5],[5])] ?_;simp only[zX,simprocAttr,-FF,zM,Re.ah,hole,w0,w1,fS,xz,qf,bS,aU];refine⟨aF,aF,?_⟩;refine cP mix [] [(0,[5],[]),(1,[5],[]),(6,[0],[]),(7,[0],[]),(8,[0],[]),(9,[2],[]),(10,[3],[]),(11,[3],[])] ?_;simp only[zX,simprocAttr,-FF,zM,w1,w2,q1,q2,gt_iff_lt];refine⟨aF,?_⟩;refine cP mix [20] [(1,[0],[]),(2,[0],[]),(3,[0],[]),(4,[5],[]),(5,[5],[]),(6,[5],[]),(7,[5],[]),(8,[2],[]),(10,[0],[]),(11,[0],[]),(12,[0],[]),(13,[3],[]),(14,[3],[]),(15,[3],[]),(16,[3],[]),(19,[2],[])] ?_;rcases F with ⟨hz,F⟩|⟨hz,F⟩|⟨hz,F⟩|⟨hz,F⟩|⟨hz,F⟩
   all_goals
    simp only[zX,simprocAttr,-FF,zM,hle,yH,w1,w3,hp,l1,l2,l3,l5,l6,F,true_or,or_false,ak4,alM,ale,e1,e2,e3,ak7,alc,or_true,alj];refine⟨aF,aF,cU (HK [2] hE (WS (by first|exact IM (own:=m.own) rfl (show x1+(x2-x1)<=m.own.length by omega)|exact Lh hz) (by first|exact IM (own:=m.own) rfl (show i+(x2-x1)<=m.own.length by omega)|exact Lh hz)) rfl ⟨rfl,rfl⟩) ?_⟩;cases UH:jv m.t x1 i (x2-x1);all_goals
     simp only[zX,simprocAttr,-FF,zM,w1,w3,UH,alh,ali,alk];exact⟨hM,rfl⟩
theorem Sc (gp:Nat) (kind n at_ x:Int) (rd cd nd:D) :
  av prog 101 [i64 kind,.d rd,i64 n,i64 at_,.rf 0 gp 0 0] [⟨gp,true,3,[[.d (iD x),.d cd,.d nd]]⟩] λv s=>v=.tu []/\s=[⟨gp,true,3,[[.d (iD x),.d cd,.d (.el [iD kind,rd,iD n,iD at_,nd])]]⟩]:=by
 refine DN func101 rfl ntmps101 results101 rfl 1 31 aq aq ?_;simp only[zX,simprocAttr,zM,HF,u5,xi]
theorem AP{rd cd nd:D} (ho:s[k]?=some ⟨gp,true,3,[[.d (.sc (.int .i64 x)),.d cd,.d nd]]⟩)
  (hk:K (.tu []) (s.set k ⟨gp,true,3,[[.d (.sc (.int .i64 x)),.d cd,.d (.el [.sc (.int .i64 kind),rd,.sc (.int .i64 n),.sc (.int .i64 at_),nd])]]⟩)) :
  av prog 101 [.d (.sc (.int .i64 kind)),.d rd,.d (.sc (.int .i64 n)),.d (.sc (.int .i64 at_)),.rf k gp 0 0] s K :=
 Da k (Sc gp kind n at_ x rd cd nd) rfl rfl rfl ho rfl hk
theorem Rw (gp:Nat) (kind n at_ x:Int) (rd cd nd:D) :
  av prog 119 [i64 kind,.d rd,i64 n,i64 at_,.rf 0 gp 0 0] [⟨gp,true,3,[[.d (iD x),.d cd,.d nd]]⟩] λv s=>v=.tu []/\s=[⟨gp,true,3,[[.d (iD x),.d cd,.d (.el [iD kind,rd,iD n,iD at_,nd])]]⟩]:=by
 refine DN func119 rfl ntmps119 results119 rfl 1 31 aq aq ?_;simp only[zX,simprocAttr,zM,HF,u5,xi]
theorem oX{rd cd nd:D} (ho:s[k]?=some ⟨gp,true,3,[[.d (.sc (.int .i64 x)),.d cd,.d nd]]⟩)
  (hk:K (.tu []) (s.set k ⟨gp,true,3,[[.d (.sc (.int .i64 x)),.d cd,.d (.el [.sc (.int .i64 kind),rd,.sc (.int .i64 n),.sc (.int .i64 at_),nd])]]⟩)) :
  av prog 119 [.d (.sc (.int .i64 kind)),.d rd,.d (.sc (.int .i64 n)),.d (.sc (.int .i64 at_)),.rf k gp 0 0] s K :=
 Da k (Rw gp kind n at_ x rd cd nd) rfl rfl rfl ho rfl hk
theorem aP.OM (m:aP):m.step.p=m.p:=by unfold aP.step;split <;> rfl
theorem aP.Uv (m:aP):m.step.top=m.top:=by unfold aP.step;split <;> rfl
theorem aP.VA (m:aP):m.step.iq=m.iq:=by unfold aP.step;split <;> rfl
theorem fO{m':aP}{r:V} (h:av prog f cargs (m.bw g b a) λv s=>v=r/\s=m'.bw g b a) (ha:cargs.map (aI [0,1,2])=cargs) (xj:ak.go 3 cargs=true) (hr:aI [0,1,2] r=r)
  (ext:List VL.Obj):av prog f cargs (m.bw g b a++ext) λv s=>v=r/\s=m'.bw g b a++ext:=by
 have Oz:∀m:aP,(m.bw g b a).map (ba [0,1,2])=m.bw g b a:=by
  intro m;unfold aP.bw aP.aQ;simp only[ak8,ak9,List.cons.injEq,and_true];refine⟨?_,?_,?_⟩
  ·unfold aP.text;split <;> rfl
  ·exact Zcb
  ·exact xS [0,1,2] m.nU true 1 m.own iD
 refine dD [0,1,2] h aF eh ?_ ha.symm xj (rn g b a m _ 3 (ale _) (yB m)) hr ?_
 ·have e:(m.bw g b a).map (λo=>some (ba [0,1,2] o))=(m.bw g b a).map some:=by
   conv=>rhs;rw[<- Oz m]
   rw[alH];rfl
  rw[e];rfl
 ·rw[Oz];exact⟨rfl,rfl⟩
theorem bt.bP (b a:Nat) (kind:Int) (r:bQ) (n at_:Int) (nx:bt):(bt.mk kind r n at_ nx).d b a=.el [.sc (.int .i64 kind),r.d b a,.sc (.int .i64 n),.sc (.int .i64 at_),nx.d b a]:=rfl
theorem QF (g b a:Nat) (m:aP) (r:bQ) (n at_:Int) (nx:bt) (p:aB) (hm:m.gF p) (fS:0<=n) (xz:n<=10000000000000) {x:Rs} (hx:sE m r n p=some x) :
  av prog 104 [.pp 0 g 0 0 b a,.d ((bt.mk 2 r n at_ nx).d b a),p.v b a] (m.bw g b a) λv s=>v=cj b a x.2.1 x.2.2/\s=x.1.bw g b a:=by
 obtain⟨⟨g1,g2,g3,g4⟩,⟨g5,g6,g7⟩,g8,g9⟩:=hm;have bL:=λext=>fO (Mg g b a m g1 g2) rfl rfl rfl ext;unfold sE at hx;cases hl:m.lit r with
 |none=>rw[hl]at hx;cases hx
 |some re =>
 rw[hl]at hx;simp only at hx;obtain⟨aJ,l,hk⟩:∃aJ l,re.kids=aJ::l:=by
  exact ZaZ
 rw[hk]at hx;simp only at hx;have mY:(0:Int)<(re.kids.length:Int):=by rw[hk,alg];omega
 have hk:re.kids[0]?=some aJ:=by rw[hk];rfl
 have lQ:=m.OM;have afI:=m.VA;have Y6:=m.Uv;obtain⟨b2,h2⟩:∃c,decide (n<re.mn)=c:=⟨_,rfl⟩
 obtain⟨b4,h4⟩:∃c,decide (0<=re.mx)=c:=⟨_,rfl⟩
 obtain⟨b5,h5⟩:∃c,decide (re.mx<=n)=c:=⟨_,rfl⟩
 obtain⟨b6,h6⟩:∃c,decide (re.mode=1)=c:=⟨_,rfl⟩
 have w1:IntKind.i64.wrap (n+1)=n+1:=bK _ ae;by_cases c1:m.fuel<=m.steps
 ·rw[be c1]at hx;cases hx;have hd:decide (m.steps<m.fuel)=false:=ce ae;simp only[hd]at bL;unfold aP.bw aP.aQ at bL;simp only[zM]at bL;unfold aP.bw aP.aQ;refine br func104 ntmps104 results104 3 2023 ?_;simp only[zX,simprocAttr,zM,bt.bP];refine an (bL _) (λv s' hv=>?_);obtain⟨rfl,rfl⟩:=hv;simp only[zX,simprocAttr,zM,ali];exact⟨aG m.step b a,rfl⟩
 rw[ap c1]at hx;have hd:decide (m.steps<m.fuel)=true:=bi ae;simp only[hd]at bL;generalize IB:m.step=m1 at *;have P5:∀q:aB,av prog 103 [.pp 0 g 0 0 b a,q.v b a] (m1.bw g b a) λv s=>v=.tu []/\s=(m1.push q).bw g b a:=λq=>Ic g b a m1 q (by rw[Y6,afI];exact g3) (by rw[Y6];exact g4);rcases ft hl with ⟨lu,rk⟩|lu;all_goals
  clear hl;try rw[<- lQ]at rk
  try subst rk
  unfold aP.bw aP.aQ at bL;simp only[zM]at bL;unfold aP.bw aP.aQ;refine br func104 ntmps104 results104 3 2023 ?_;simp only[zX,simprocAttr,zM,bt.bP];refine an (bL _) (λv s' hv=>?_);obtain⟨rfl,rfl⟩:=hv;simp only[zX,simprocAttr,zM,alh,lu,bQ.d,Re.ah,mY,hk];refine aW (cr.bu.trans cr.bu) ?_;refine cP mix [] [(0,[3],[]),(1,[3],[]),(2,[5],[5]),(3,[6],[6]),(4,[5],[5]),(5,[6],[6])] ?_;simp only[zX,simprocAttr,zM,hole];refine cP mix [] [(8,[0],[]),(9,[0],[]),(10,[0],[])] ?_;cases b2 with
  |true =>
   rw[be (of_decide_eq_true h2)]at hx;cases hx;simp only[zX,simprocAttr,zM,h2,lu,bQ.d,Re.ah];refine aW cr.bu ?_;refine cP mix [14] [(10,[3],[]),(11,[3],[]),(13,[7],[7]),(15,[6],[]),(16,[6],[6])] ?_;simp only[zX,simprocAttr,zM,hole,w1];refine cU (bC [7] (by simp [bI,bU,bq.go,bq,cJ,bt.bP,lu,bQ.d,Re.ah,iD,bD]) (dk (pj b a (.el aJ) (.mk 2 r (n+1) 0 p.todo)) ⟨rfl,rfl⟩)) ?_;simp only[zX,simprocAttr,zM,bt.bP,lu,bQ.d,Re.ah,bI,bU];refine⟨aG m1 b a,?_⟩;simp only[zM,cj,bt.bP,lu,bQ.d,Re.ah]
  |false =>
   rw[ap (of_decide_eq_false h2)]at hx;have hpm:=λext=>fO (P5 { p with todo:=.mk 0 (.el aJ) 0 0 (.mk 3 r (n+1) p.at_ p.todo) }) rfl rfl rfl ext;have Lz:=λext=>fO (P5 p) rfl rfl rfl ext;generalize Bt:m1.push { p with todo:=.mk 0 (.el aJ) 0 0 (.mk 3 r (n+1) p.at_ p.todo) }=m2 at *;generalize hm3:m1.push p=m3 at *;unfold aP.bw aP.aQ at hpm Lz;simp only[zM,bt.bP,lu,bQ.d,Re.ah]at hpm Lz;simp only[zX,simprocAttr,zM,h2,lu,bQ.d,Re.ah];refine cP mix [] [(4,[0],[]),(5,[0],[]),(6,[0],[]),(17,[0],[]),(18,[0],[]),(19,[0],[])] ?_;cases b4 with
   |true =>
    cases b5 with
    |true =>
     rw[be ⟨of_decide_eq_true h4,of_decide_eq_true h5⟩]at hx;cases hx;simp only[zX,simprocAttr,zM,h4,h5,ge_iff_le,lu,bQ.d,Re.ah];exact⟨aG m1 b a,rfl⟩
    |false =>
     rw[ap (λh=>of_decide_eq_false h5 h.2)]at hx;simp only[zX,simprocAttr,zM,h4,h5,ge_iff_le,lu,bQ.d,Re.ah];exact Zat
   |false =>
     rw[ap (λh=>of_decide_eq_false h4 h.1)]at hx;simp only[zX,simprocAttr,zM,h4,ge_iff_le,lu,bQ.d,Re.ah];exact Zat
def nX (k:Nat):Prop:=∀g b a m base p alive x,cL k true m base p alive=some x->av prog 34 [.pp 0 g 0 0 b a,i64 (base:Nat),p.v b a,bV alive] (m.bw g b a) λv s=>v=cj b a x.2.1 x.2.2/\s=x.1.bw g b a
theorem Ra (m:aP) (b a base:Nat) (h:base<=m.top):ib (m.iq.map (Pg b a)) base (List.replicate (m.top-base) [V.d (D.sc (.int .i64 0)),.fu [],.d (D.sc (.pointer none))])=(m.clear base).iq.map (Pg b a):=by unfold ib aP.clear;simp only[amp,List.map_take,List.map_drop,List.map_replicate,alQ,Pg,alx];rw[show base+(m.top-base)=m.top by omega]
theorem GX (ih:nX k) (g b a:Nat) (m:aP) (p:aB) {x:Rs} (hx:ja (λm base p=>cL k true m base p true) m p=some x) :
  av prog 135 [.pp 0 g 0 0 b a,p.v b a] (m.bw g b a) λv s=>v=cj b a x.2.1 x.2.2/\s=x.1.bw g b a:=by
 simp only[ja]at hx;cases hs:cL k true m m.top p true with
 |none=>rw[hs]at hx;cases hx
 |some y =>
  obtain⟨m1,p1,found⟩:=y;rw[hs]at hx;simp only at hx;split at hx
  ·cases hx
  rename_i hc;cases hx;have bL:=λext=>fO (ih g b a m m.top p true _ hs) rfl rfl rfl ext;have q1:m.top<=m1.top:=ae;have q2:m1.top<=m1.iq.length:=ae;have q3:(m.top:Int)<=(m1.top:Int):=ae;have q4:(0:Int)<=(m.top:Int):=ae;have yH:min m1.top m1.iq.length=m1.top:=ae;have cQ:=Ra m1 b a m.top q1;unfold aP.bw aP.aQ at bL;simp only[zM,cj]at bL;unfold aP.bw aP.aQ;refine br func135 ntmps135 results135 3 251 ?_;simp only[zX,simprocAttr,zM,cj];refine an (bL _) (λv s' hv=>?_);obtain⟨rfl,rfl⟩:=hv;have VG:((m1.top:Int)-(m.top:Int)).toNat=m1.top-m.top:=ae;have hlen:(m1.clear m.top).iq.length=m1.iq.length:=by simp only[aP.clear,ald,alM,alQ,List.length_drop];omega
  have q7:m1.top<=(m1.clear m.top).iq.length:=ae;have Yp:min m1.top (m1.clear m.top).iq.length=m1.top:=ae;rcases alw m.top m1.top with q5|q5
  ·have q6:(m.top:Int)<(m1.top:Int):=by omega
   simp only[zX,simprocAttr,zM,cj,q1,q2,q3,q4,q6,q7,yH,Yp,VG,cQ,alM,ak4,ak7,alc,or_true,lW,alj,ale,Int.sub_zero];exact⟨ae,aG (m1.clear m.top) b a,rfl⟩
  ·have q8:m1.top=m.top:=by omega
   have q6:¬(m.top:Int)<(m1.top:Int):=ae;by_cases z:(m.top:Int)=0
   ·have y:=eq_true z;simp only[zX,simprocAttr,zM,cj,q1,q2,q3,q4,q6,q7,y,yH,Yp,VG,cQ,alM,ak4,ak7,alc,true_or,lW,alj,ale,Int.sub_zero];exact⟨ae,aG (m1.clear m.top) b a,rfl⟩
   ·have y:=eq_false z;have WO:m1.clear m.top=m1:=by rw[<- q8];obtain⟨⟩:=m1;simp only[aP.clear,ame,List.replicate_zero,ak6,amw]
    rw[WO];simp only[zX,simprocAttr,zM,cj,q1,q2,q3,q4,q6,y,yH,VG,alM,ak4,ak7,alc,true_or,or_false,lW,alj,ale,Int.sub_zero];rw[<- q8];exact⟨aG m1 b a,rfl⟩
theorem Hi (ih:nX k) (g b a:Nat) (m:aP) (p:aB) (part:bt) {x:Rs} (hx:my (λm base p=>cL k true m base p true) m p part=some x) :
  av prog 120 [.pp 0 g 0 0 b a,p.v b a,.d (part.d b a)] (m.bw g b a) λv s=>v=cj b a x.2.1 x.2.2/\s=x.1.bw g b a:=by
 unfold my at hx;cases hs:ja (λm base p=>cL k true m base p true) m { p with todo:=part } with
 |none=>rw[hs]at hx;cases hx
 |some y =>
  obtain⟨m1,r,found⟩:=y;rw[hs]at hx;cases hx;have bL:=λext=>fO (GX ih g b a m _ hs) rfl rfl rfl ext;unfold aP.bw aP.aQ at bL;simp only[zM,cj]at bL;unfold aP.bw aP.aQ;refine br func120 ntmps120 results120 3 983 ?_;simp only[zX,simprocAttr,zM,cj];refine an (bL _) (λv s' hv=>?_);obtain⟨rfl,rfl⟩:=hv;simp only[zX,simprocAttr,zM,cj];exact aG m1 b a
theorem Ka (ih:nX k) (g b a:Nat) (m:aP) (r:bQ) (re:Re) (hr:m.lit r=some re) (p:aB) (aJ:Re) (l:List Re) (hl:re.kids=aJ::l) (hp0:0<=p.at_) (zK:p.at_<=1000000) {x:Rs} (hx:qq (λm base p=>cL k true m base p true) m re aJ p=some x) :
  av prog 124 [.pp 0 g 0 0 b a,.d (r.d b a),p.v b a] (m.bw g b a) λv s=>v=cj b a x.2.1 x.2.2/\s=x.1.bw g b a:=by
 have hk:re.kids[0]?=some aJ:=by rw[hl];rfl
 have mY:(0:Int)<(re.kids.length:Int):=by rw[hl,alg];omega
 have Sv:=pj b a (.el aJ) .nil;simp only[bt.d,bQ.d,Re.ah,iD,bD]at Sv;clear hl;unfold qq at hx;obtain⟨ng,hn⟩:∃ng,re.neg=ng:=⟨_,rfl⟩
 obtain⟨w,hw⟩:∃w:V,w=.d (r.d b a):=⟨_,rfl⟩
 rw[hn]at hx;obtain⟨b8,lo,FN,gl,d8,hx,hc,hlo,hb⟩:∃(b8:Bool) (lo:Int) (FN:Nat) (gl:bt),decide (re.op=8)=b8/\mM (λq m=>ja (λm base p=>cL k true m base p true) m { at_:=q,aj:=p.aj,todo:=.mk 0 (.el aJ) 0 0 gl }) ng p lo FN m=some x/\lo+FN=p.at_+1/\0<=lo/\((b8=true/\lo=0/\gl=.mk 5 .nil 0 p.at_ .nil)\/(b8=false/\lo=p.at_/\gl=.nil)):=by
  by_cases o8:re.op=8
  ·have yh:∀q,rR re.op aJ q=.mk 0 (.el aJ) 0 0 (.mk 5 .nil 0 q .nil):=λq=>be o8;rw[be o8,be o8]at hx;simp only[yh]at hx;exact⟨true,0,p.at_.toNat+1,_,bi o8,hx,ae,alj _,.inl ⟨rfl,rfl,rfl⟩⟩
  ·have yh:∀q,rR re.op aJ q=.mk 0 (.el aJ) 0 0 .nil:=λq=>ap o8;rw[ap o8,ap o8]at hx;simp only[yh]at hx;exact⟨false,p.at_,1,_,ce o8,hx,ae,hp0,.inr ⟨rfl,rfl,rfl⟩⟩
 rcases hb with ⟨rfl,tc,hgl⟩|⟨rfl,tc,hgl⟩ <;> rcases ft hr with ⟨rfl,rk⟩|rfl;all_goals
  have d8':=d8;try rw[<- rk]at d8'
  unfold aP.bw aP.aQ;refine br func124 ntmps124 results124 3 8167 ?_;simp only[zX,simprocAttr,-FF,zM,cj,bQ.d,Re.ah,d8'];refine ay (λn e s=>∃(j:Nat) (m1:aP),n=j/\lo+(j:Int)<=p.at_+1/\m.Fr m1/\e 0=.pp 0 g 0 0 b a/\e 1=w/\e 5=.rf 3 0 0 0/\e 6=.rf 4 0 0 0/\e 8=i64 lo/\e 9=i64 (lo+j-1)/\s=m1.bw g b a++[⟨0,true,3,[(p.cells b a).map .d]⟩,⟨0,true,3,[[.d (iD 0),.fu [],.d (.sc (.pointer none))]]⟩] /\
    mM (λq m=>ja (λm base p=>cL k true m base p true) m { at_:=q,aj:=p.aj,todo:=.mk 0 (.el aJ) 0 0 gl }) ng p lo j m1=some x)
   ⟨_,_,_,bO.refl,FN,m,rfl,ae,.refl _,rfl,?_,rfl,rfl,?_,?_,rfl,hx⟩ ?_
  ·rw[hw];first|rfl|(rw[bQ.d,Re.ah];rfl)
  ·rw[tc];rfl
  ·rw[show lo+(FN:Int)-1=p.at_ by omega];rfl
  clear hx;rintro n e s ⟨j,m1,rfl,hj,SI,h0,h1,h5,h6,h8,h9,rfl,hx⟩;have lQ:=SI.p;have Rh:=h1;rw[hw]at Rh;simp only[bQ.d,Re.ah,iD,bD]at Rh;try rw[<- lQ]at rk
  try subst rk
  cases n with
  |zero =>
   simp only[mM,alb]at hx;cases hx;rw[show lo+((0:Nat):Int)-1=lo-1 by omega]at h9;have hle:¬lo<=lo-1:=ae;unfold aP.bw aP.aQ;cases ng;all_goals
    simp only[zX,simprocAttr,-FF,zM,cj,h0,Rh,h5,h6,h8,h9,d8,mY,hk,hle,ge_iff_le];refine cP mix [] [(0,[3],[]),(2,[0],[]),(3,[0],[]),(4,[0],[]),(7,[0],[]),(8,[0],[]),(9,[0],[]),(12,[4],[4])] ?_;simp only[zX,simprocAttr,-FF,zM,cj,h0,Rh,h5,h6,h8,h9,d8,mY,hk,hn];first|exact⟨aG m1 b a,rfl⟩|exact aG m1 b a
  |succ j =>
   rw[show lo+((j+1:Nat):Int)-1=lo+(j:Int) by omega]at h9;have hle:lo<=lo+(j:Int):=ae;simp only[mM]at hx;by_cases he:m1.cz=true
   ·rw[be he]at hx;cases hx;unfold aP.bw aP.aQ;cases ng;all_goals
     simp only[zX,simprocAttr,-FF,zM,cj,h0,Rh,h5,h6,h8,h9,d8,mY,hk,hle,he,ge_iff_le];refine cP mix [] [(0,[3],[]),(2,[0],[]),(3,[0],[]),(4,[0],[]),(7,[0],[]),(8,[0],[]),(9,[0],[]),(12,[4],[4])] ?_;simp only[zX,simprocAttr,-FF,zM,cj,h0,Rh,h5,h6,h8,h9,d8,mY,hk,hn];first|exact⟨aG m1 b a,rfl⟩|exact aG m1 b a
   ·rw[ap he]at hx;have he:m1.cz=false:=by simpa using he
    cases hs:ja (λm base p=>cL k true m base p true) m1 { at_:=lo+(j:Int),aj:=p.aj,todo:=.mk 0 (.el aJ) 0 0 gl } with
    |none=>rw[hs]at hx;cases hx
    |some y =>
     obtain⟨m2,r,found⟩:=y;rw[hs]at hx;simp only at hx;have adj:m1.Fr m2:=E8 (λm base p x h=>zG k true m base p true x h) hs;have hn2:=hn;try rw[<- adj.p]at hn2
     have bL:=λext=>fO (GX ih g b a m1 _ hs) rfl rfl rfl ext;clear hs;subst hgl;unfold aP.bw aP.aQ at bL;simp only[zM,cj,bt.d,bQ.d,Re.ah,he]at bL;unfold aP.bw aP.aQ;simp only[zX,simprocAttr,-FF,zM,cj,h0,Rh,h5,h6,h8,h9,d8,mY,hk,he,hle,ge_iff_le,Re.ah];refine dk Sv ?_;simp only[zX,simprocAttr,-FF,zM,cj,h0,Rh,h5,h6,h8,h9,d8,mY,hk,Re.ah];try
      refine aW cr.bu ?_;refine cP mix [9] [(1,[0],[]),(2,[0],[]),(3,[0],[]),(5,[3],[]),(6,[3],[]),(8,[5],[5])] ?_;simp only[zX,simprocAttr,-FF,zM,cj,hole,h0,Rh,h5,h6,h8,h9,d8,mY,hk];refine cU (bC [5] (by simp [bI,bU,bq.go,bq,cJ,bt.d,bQ.d,Re.ah,iD,bD]) (dk (pj b a (.el aJ) (.mk 5 .nil 0 p.at_ .nil)) ⟨rfl,rfl⟩)) ?_;simp only[zX,simprocAttr,-FF,zM,cj,h0,Rh,h5,h6,h8,h9,d8,mY,hk,bI,bU,bQ.d,bt.d,Re.ah]
     refine an (bL _) (λv s' hv=>?_);obtain⟨rfl,rfl⟩:=hv;cases found with
     |false =>
      simp only[alk,if_false]at hx;simp only[zX,simprocAttr,-FF,zM,cj,h0,Rh,h5,h6,h8,h9,d8,mY,hk];refine⟨j,_,_,ae,bO.cut (s':=m2.bw g b a++[⟨0,true,3,[(p.cells b a).map .d]⟩,⟨0,true,3,[[.d (iD 0),.fu [],.d (.sc (.pointer none))]]⟩]) 5 ae rfl ?_ [0,1,5,6,8,9] ?_,j,m2,rfl,ae,SI.trans adj,?_,?_,?_,?_,?_,?_,rfl,hx⟩ <;> (try simp only[zU,Ft,qa,qe,Fp,reduceIte])
      ·rw[amm,show (m2.bw g b a).all (aY 5)=true from rn g b a m2 _ 5 ae (show ak 5 m2.text=true by unfold aP.text;split <;> rfl)];rfl
      ·simp [ca,aZ,ak,i64,h0,Rh,h5,h6,h8,h9]
      ·exact h0
      ·exact h1
      ·exact h5
      ·exact h6
      ·exact h8
      ·rw[bK _ ae]
     |true =>
      simp only[if_true]at hx;cases ng;all_goals
       cases hx;simp only[zX,simprocAttr,-FF,zM,cj,h0,Rh,h5,h6,h8,h9,d8,mY,hk,hn2];first|exact⟨aG m2 b a,rfl⟩|exact aG m2 b a
theorem LZ{y:Int}{r:Bool} (h:aS prog 68 [.d (.sc (.int .i64 x)),.d (ar t),.d (.sc (.int .i64 y))] (.d (.sc (.bool r)))) (ht:own=t)
  (hs:s[2]?=some ⟨og,true,1,own.map λx=>[V.d (.sc (.int .i64 x))]⟩) (hk:K (.d (.sc (.bool r))) s) :
  EH prog [2] [] 68 [.d (.sc (.int .i64 x)),.so 2 og 0 t.length,.d (.sc (.int .i64 y))] s K:=by
 refine⟨_,[],rfl,λs' hl hr=>?_,hk⟩;have jT:s'[2]?=some ⟨og,true,1,own.map λx=>[V.d (.sc (.int .i64 x))]⟩:=by rw[hr 2 aq];exact hs
 refine HK [2] h ?_ rfl ⟨rfl,rfl⟩;have DH:(bI s' [2])[2]?=some ⟨og,false,1,own.map λx=>[V.d (iD x)]⟩:=by simp only[bI,bU,jT];rw[List.getElem?_set_self (List.getElem?_eq_some_iff.1 jT).1];rfl
 have:=IM (bM:=(bI s' [2]).length) (own:=own) DH (show 0+t.length<=own.length by rw[ht];omega);rw[alV,ht,alr]at this;simp only[bq.go,this];rfl
theorem FY (h:x=o):decide (x=1)=decide (o=1)/\decide (x=2)=decide (o=2)/\decide (x=3)=decide (o=3)/\decide (x=5)=decide (o=5)/\decide (x=6)=decide (o=6)/\decide (x=7)=decide (o=7)/\decide (x=8)=decide (o=8)/\decide (x=9)=decide (o=9)/\decide (x=10)=decide (o=10)/\decide (x=11)=decide (o=11):=by subst h;simp
theorem QE (ih:nX k) (g b a:Nat) (m:aP) (r:bQ) (p:aB) (hm:m.gF p) {x:Rs} (hx:kS (λm base p=>cL k true m base p true) m r p=some x) :
  av prog 102 [.pp 0 g 0 0 b a,.d (r.d b a),p.v b a] (m.bw g b a) λv s=>v=cj b a x.2.1 x.2.2/\s=x.1.bw g b a:=by
 obtain⟨⟨g1,g2,g3,g4⟩,⟨g5,g6,g7⟩,g8,g9⟩:=hm;unfold kS at hx;cases hl:m.lit r with
 |none=>rw[hl]at hx;cases hx
 |some re =>
 rw[hl]at hx;simp only at hx;by_cases hs:1000000000<re.set.length\/1000000000<re.kids.length
 ·rw[be hs]at hx;cases hx
 rw[ap hs]at hx;have fB:re.set.length<=1000000000:=ae;have iw:re.kids.length<=1000000000:=ae;clear hs;by_cases o4:re.op=4
 ·have d4:decide (re.op=4)=true:=bi o4;rw[be o4]at hx;by_cases om:re.mode=2
  ·have dm:decide (re.mode=2)=true:=bi om;rw[be om]at hx;have bL:=λext=>fO (Hi ih g b a m p _ hx) rfl rfl rfl ext;obtain⟨m1,y1,y2⟩:=x;rcases ft hl with ⟨rfl,rfl⟩|rfl;all_goals
    unfold aP.bw aP.aQ at bL;simp only[zM,cj,bt.d,bQ.d,Re.ah]at bL;unfold aP.bw aP.aQ;refine br func102 ntmps102 results102 3 158456325028528677386111158247 ?_;simp only[zX,simprocAttr,-FF,zM,cj,bQ.d,Re.ah,d4,dm];refine bC [5] (by simp [bI,bU,bq.go,bq,cJ,bt.d,bQ.d,Re.ah,iD,bD]) (an (bL _) (λv s' hv=>?_));obtain⟨rfl,rfl⟩:=hv;simp only[zX,simprocAttr,-FF,zM,cj];first
     |(refine⟨aG m1 b a,?_⟩;simp only[zM,cj,sq,mP,bS,aU,bt.d,bQ.d,Re.ah];done)
     |exact⟨aG m1 b a,rfl⟩
     |exact aG m1 b a
  ·have dm:decide (re.mode=2)=false:=ce om;rw[ap om]at hx;cases hx;rcases ft hl with ⟨rfl,rfl⟩|rfl;all_goals
    unfold aP.bw aP.aQ;refine br func102 ntmps102 results102 3 158456325028528677386111158247 ?_;simp only[zX,simprocAttr,-FF,zM,cj,bQ.d,Re.ah,d4,dm];refine oX rfl ?_;simp only[zX,simprocAttr,-FF,zM,cj,bQ.d,Re.ah,d4,dm];first
     |(refine⟨aG m b a,?_⟩;simp only[zM,cj,sq,mP,bS,aU,bt.d,bQ.d,Re.ah];done)
     |exact⟨aG m b a,rfl⟩
     |exact aG m b a
 rw[ap o4]at hx;have d4:decide (re.op=4)=false:=ce o4;have bL:=λext=>fO (Mg g b a m g1 g2) rfl rfl rfl ext;by_cases hf:m.fuel<=m.steps
 ·rw[be hf]at hx;have hd:decide (m.steps<m.fuel)=false:=ce ae;simp only[hd]at bL;cases hx;rcases ft hl with ⟨rfl,rfl⟩|rfl;all_goals
   unfold aP.bw aP.aQ at bL;simp only[zM,cj]at bL;unfold aP.bw aP.aQ;refine br func102 ntmps102 results102 3 158456325028528677386111158247 ?_;simp only[zX,simprocAttr,-FF,zM,cj,bQ.d,Re.ah,d4];refine an (bL _) (λv s' hv=>?_);obtain⟨rfl,rfl⟩:=hv;simp only[zX,simprocAttr,-FF,zM,cj,ali];first
    |(refine⟨aG m.step b a,?_⟩;simp only[zM,cj,sq,mP,bS,aU,bt.d,bQ.d,Re.ah];done)
    |exact⟨aG m.step b a,rfl⟩
    |exact aG m.step b a
 rw[ap hf]at hx;have hd:decide (m.steps<m.fuel)=true:=bi ae;simp only[hd]at bL;have Tq:=m.ID;have t1:m.step.t.length<=1000000:=by rw[Tq.t];exact g8
 have t2:p.at_<=m.step.t.length:=by rw[Tq.t];exact g6
 have t3:m.step.same:=λh=>by rw[Tq.own,Tq.t];exact g9 (by rw[<- Tq.dS];exact h)
 have hR:(r=.root/\m.step.p.re=re/\decide (m.p.re.op=4)=false)\/(r=.el re/\re=re/\decide (re.op=4)=false):=by
  rcases ft hl with ⟨h1,h2⟩|h
  ·exact .inl ⟨h1,by rw[m.OM];exact h2,by rw[h2];exact d4⟩
  ·exact .inr ⟨h,rfl,d4⟩
 have tc:m.step.lit r=some re:=by
  rcases ft hl with ⟨rfl,h2⟩|rfl
  ·show some m.step.p.re=_;rw[m.OM,h2]
  ·rfl
 clear hl;generalize IB:m.step=m1 at *;by_cases o1:re.op=1
 ·rw[be o1]at hx;obtain⟨d1,d2,d3,d5,d6,d7,d8,d9,d10,d11⟩:=FY o1;cases hx;have cQ:=λext=>fO (XR g b a m1 r re p tc fB g5 t1 t3) rfl rfl rfl ext;generalize hy:EZ m1.t re p=y at *;obtain⟨y1,y2⟩:=y;rcases hR with ⟨rfl,rfl,e4⟩|⟨rfl,_,e4⟩
  all_goals
   unfold aP.bw aP.aQ at cQ;simp only[zM,cj,bt.d,bQ.d,Re.ah]at cQ;unfold aP.bw aP.aQ at bL;simp only[zM,cj]at bL;unfold aP.bw aP.aQ;refine br func102 ntmps102 results102 3 158456325028528677386111158247 ?_;simp only[zX,simprocAttr,-FF,zM,cj,bQ.d,Re.ah,e4];refine an (bL _) (λv s' hv=>?_);obtain⟨rfl,rfl⟩:=hv;simp only[zX,simprocAttr,-FF,zM,cj,alh,Re.ah,d1,d2,d3,d5,d6,d7,d8,d9,d10,d11,FD,decide_true,decide_false];refine an (cQ _) (λv s' hv=>?_);obtain⟨rfl,rfl⟩:=hv;simp only[zX,simprocAttr,-FF,zM,cj];first
    |(refine⟨aG m1 b a,?_⟩;simp only[zM,cj,sq,mP,bS,aU,bt.d,bQ.d,Re.ah];done)
    |exact⟨aG m1 b a,rfl⟩
    |exact aG m1 b a
 rw[ap o1]at hx;by_cases o2:re.op=2
 ·rw[be o2]at hx;obtain⟨d1,d2,d3,d5,d6,d7,d8,d9,d10,d11⟩:=FY o2;cases hx;obtain⟨Q,hQ⟩:∃Q,Q=re.kids:=⟨_,rfl⟩
  obtain⟨w,hw⟩:∃w:V,w=.d (r.d b a):=⟨_,rfl⟩
  rcases hR with ⟨rfl,rfl,e4⟩|⟨rfl,_,e4⟩
  all_goals
   unfold aP.bw aP.aQ at bL;simp only[zM,cj]at bL;unfold aP.bw aP.aQ;refine br func102 ntmps102 results102 3 158456325028528677386111158247 ?_;simp only[zX,simprocAttr,-FF,zM,cj,bQ.d,Re.ah,e4];refine an (bL _) (λv s' hv=>?_);obtain⟨rfl,rfl⟩:=hv;simp only[zX,simprocAttr,-FF,zM,cj,alh,Re.ah,d1,d2,d3,d5,d6,d7,d8,d9,d10,d11,FD,decide_true,decide_false];refine ay (λn e s=>∃j:Nat,n=j/\j<=Q.length/\e 0=.pp 0 g 0 0 b a/\e 1=w/\e 5=.rf 3 0 0 0/\e 6=.rf 4 0 0 0/\e 8=.cl (.func 119) [] [.rf 3 0 0 0]/\e 9=i64 ((j:Int)-1)/\s=m1.bw g b a++[⟨0,true,3,[[.d (iD p.at_),.d (bS p.aj),.d ((mP (Q.drop j) p.todo).d b a)]]⟩,⟨0,true,3,[[.d (iD 0),.fu [],.d (.sc (.pointer none))]]⟩])
    ⟨_,_,_,bO.refl,Q.length,by rw[hQ],ale _,rfl,?_,rfl,rfl,rfl,?_,?_⟩ ?_
   ·rw[hw];first|rfl|(rw[bQ.d,Re.ah];rfl)
   ·rw[hQ,bK _ ae];rfl
   ·rw[List.drop_length];rfl
   rintro n e s ⟨j,rfl,hj,h0,h1,h5,h6,h8,h9,rfl⟩;have xD:=h1;rw[hw]at xD;simp only[bQ.d,Re.ah,iD,bD]at xD;unfold aP.bw aP.aQ;cases n with
   |zero =>
    rw[show ((0:Nat):Int)-1=-1 by omega]at h9;simp only[zX,simprocAttr,-FF,zM,cj,h0,xD,h5,h6,h8,h9,ge_iff_le,alV,hQ];first
     |(refine⟨aG m1 b a,?_⟩;simp only[zM,cj,sq,mP,bS,aU,bt.d,bQ.d,Re.ah];done)
     |exact⟨aG m1 b a,rfl⟩
     |exact aG m1 b a
   |succ j =>
    rw[show ((j+1:Nat):Int)-1=(j:Int) by omega]at h9;have hle:(0:Int)<=(j:Int):=ae;have hdr:=yT (List.getElem?_eq_getElem hj);obtain⟨y,hy⟩:∃y,Q[j]?=some y:=cb hj;have hdr:=yT hy;rw[hQ]at hj hy;have aE:=Int.ofNat_lt.2 hj;have afz:j<_:=hj;simp only[zX,simprocAttr,-FF,zM,cj,h0,xD,h5,h6,h8,h9,ge_iff_le,hle,aE,afz,hy,ak7,Re.ah];refine oX rfl ?_;simp only[zX,simprocAttr,-FF,zM,cj,h0,xD,h5,h6,h8,h9];refine⟨j,_,_,ae,bO.refl,j,rfl,by rw[hQ];omega,?_,?_,?_,?_,?_,?_,?_⟩ <;> (try simp only[zU,Ft,qa,qe,Fp,reduceIte])
    ·exact h0
    ·exact h1
    ·exact h5
    ·exact h6
    ·exact h8
    ·rw[bK _ ae]
    ·rw[hdr];simp only[mP,List.foldr_cons,bt.d,bQ.d,Re.ah,iD,bD];try rfl
 rw[ap o2]at hx;by_cases o3:re.op=3
 ·rw[be o3]at hx;obtain⟨d1,d2,d3,d5,d6,d7,d8,d9,d10,d11⟩:=FY o3;cases hx;rcases hR with ⟨rfl,rfl,e4⟩|⟨rfl,_,e4⟩
  all_goals
   unfold aP.bw aP.aQ at bL;simp only[zM,cj]at bL;unfold aP.bw aP.aQ;refine br func102 ntmps102 results102 3 158456325028528677386111158247 ?_;simp only[zX,simprocAttr,-FF,zM,cj,bQ.d,Re.ah,e4];refine an (bL _) (λv s' hv=>?_);obtain⟨rfl,rfl⟩:=hv;simp only[zX,simprocAttr,-FF,zM,cj,alh,Re.ah,d1,d2,d3,d5,d6,d7,d8,d9,d10,d11,FD,decide_true,decide_false];refine oX rfl ?_;simp only[zX,simprocAttr,-FF,zM,cj,alh,Re.ah,d1,d2,d3,d5,d6,d7,d8,d9,d10,d11,FD,decide_true,decide_false];first
    |(refine⟨aG m1 b a,?_⟩;simp only[zM,cj,sq,mP,bS,aU,bt.d,bQ.d,Re.ah];done)
    |exact⟨aG m1 b a,rfl⟩
    |exact aG m1 b a
 rw[ap o3]at hx;by_cases o5:re.op=5
 ·rw[be o5]at hx;obtain⟨d1,d2,d3,d5,d6,d7,d8,d9,d10,d11⟩:=FY o5;obtain⟨aJ,l,hk⟩:∃aJ l,re.kids=aJ::l:=by
   exact ZaZ
  rw[hk]at hx;cases hx;have jX:re.kids[0]?=some aJ:=by rw[hk];rfl
  have mY:(0:Int)<(re.kids.length:Int):=by rw[hk,alg];omega
  rcases hR with ⟨rfl,rfl,e4⟩|⟨rfl,_,e4⟩
  all_goals
   unfold aP.bw aP.aQ at bL;simp only[zM,cj]at bL;unfold aP.bw aP.aQ;refine br func102 ntmps102 results102 3 158456325028528677386111158247 ?_;simp only[zX,simprocAttr,-FF,zM,cj,bQ.d,Re.ah,e4];refine an (bL _) (λv s' hv=>?_);obtain⟨rfl,rfl⟩:=hv;simp only[zX,simprocAttr,-FF,zM,cj,alh,Re.ah,d1,d2,d3,d5,d6,d7,d8,d9,d10,d11,FD,decide_true,decide_false];refine oX rfl ?_;simp only[zX,simprocAttr,-FF,zM,cj,alh,Re.ah,mY,jX,d1,d2,d3,d5,d6,d7,d8,d9,d10,d11,FD,decide_true,decide_false];refine oX rfl ?_;simp only[zX,simprocAttr,-FF,zM,cj,alh,Re.ah,d1,d2,d3,d5,d6,d7,d8,d9,d10,d11,FD,decide_true,decide_false];first
    |(refine⟨aG m1 b a,?_⟩;simp only[zM,cj,sq,mP,bS,aU,bt.d,bQ.d,Re.ah];done)
    |exact⟨aG m1 b a,rfl⟩
    |exact aG m1 b a
 rw[ap o5]at hx;by_cases o6:re.op=6
 ·rw[be o6]at hx;obtain⟨d1,d2,d3,d5,d6,d7,d8,d9,d10,d11⟩:=FY o6;cases hr:Of m1.t re p with
  |none=>rw[hr]at hx;cases hx
  |some y =>
  rw[hr]at hx;cases hx;have cQ:=λext=>fO (XB g b a m1 r re p tc hr g7 g5 t2 t1 t3) rfl rfl rfl ext;obtain⟨y1,y2⟩:=y;rcases hR with ⟨rfl,rfl,e4⟩|⟨rfl,_,e4⟩
  all_goals
   unfold aP.bw aP.aQ at cQ;simp only[zM,cj,bt.d,bQ.d,Re.ah]at cQ;unfold aP.bw aP.aQ at bL;simp only[zM,cj]at bL;unfold aP.bw aP.aQ;refine br func102 ntmps102 results102 3 158456325028528677386111158247 ?_;simp only[zX,simprocAttr,-FF,zM,cj,bQ.d,Re.ah,e4];refine an (bL _) (λv s' hv=>?_);obtain⟨rfl,rfl⟩:=hv;simp only[zX,simprocAttr,-FF,zM,cj,alh,Re.ah,d1,d2,d3,d5,d6,d7,d8,d9,d10,d11,FD,decide_true,decide_false];refine an (cQ _) (λv s' hv=>?_);obtain⟨rfl,rfl⟩:=hv;simp only[zX,simprocAttr,-FF,zM,cj];first
    |(refine⟨aG m1 b a,?_⟩;simp only[zM,cj,sq,mP,bS,aU,bt.d,bQ.d,Re.ah];done)
    |exact⟨aG m1 b a,rfl⟩
    |exact aG m1 b a
 rw[ap o6]at hx;by_cases o7:re.op=7
 ·rw[be (.inl o7)]at hx;obtain⟨d1,d2,d3,d5,d6,d7,d8,d9,d10,d11⟩:=FY o7;exact Zap
 by_cases o8:re.op=8
 ·rw[be (.inr o8)]at hx;obtain⟨d1,d2,d3,d5,d6,d7,d8,d9,d10,d11⟩:=FY o8;exact Zap
 rw[bm]at hx;by_cases o9:re.op=9
 ·rw[be o9]at hx;obtain⟨d1,d2,d3,d5,d6,d7,d8,d9,d10,d11⟩:=FY o9;obtain⟨aJ,l,hk⟩:∃aJ l,re.kids=aJ::l:=by
   exact ZaZ
  rw[hk]at hx;have jX:re.kids[0]?=some aJ:=by rw[hk];rfl
  have mY:(0:Int)<(re.kids.length:Int):=by rw[hk,alg];omega
  have Sv:=pj b a (.el aJ) .nil;simp only[bt.d,bQ.d,Re.ah,iD,bD]at Sv;have cQ:=λext=>fO (Hi ih g b a m1 p _ hx) rfl rfl rfl ext;obtain⟨m2,y1,y2⟩:=x;rcases hR with ⟨rfl,rfl,e4⟩|⟨rfl,_,e4⟩
  all_goals
   unfold aP.bw aP.aQ at cQ;simp only[zM,cj,bt.d,bQ.d,Re.ah]at cQ;unfold aP.bw aP.aQ at bL;simp only[zM,cj]at bL;unfold aP.bw aP.aQ;refine br func102 ntmps102 results102 3 158456325028528677386111158247 ?_;simp only[zX,simprocAttr,-FF,zM,cj,bQ.d,Re.ah,e4];refine an (bL _) (λv s' hv=>?_);obtain⟨rfl,rfl⟩:=hv;simp only[zX,simprocAttr,-FF,zM,cj,alh,Re.ah,d1,d2,d3,d5,d6,d7,d8,d9,d10,d11,FD,decide_true,decide_false];refine cP mix [8] [(1,[3],[]),(3,[0],[]),(4,[0],[]),(5,[0],[]),(11,[4],[4])] ?_;simp only[zX,simprocAttr,-FF,zM,cj,Re.ah,mY,jX];refine HD Sv ?_;simp only[zX,simprocAttr,-FF,zM,cj,Re.ah];refine cU (cQ _) ?_;simp only[zX,simprocAttr,-FF,zM,cj];first
    |(refine⟨aG m2 b a,?_⟩;simp only[zM,cj,sq,mP,bS,aU,bt.d,bQ.d,Re.ah];done)
    |exact⟨aG m2 b a,rfl⟩
    |exact aG m2 b a
 rw[ap o9]at hx;by_cases yL:re.op=10
 ·rw[be yL]at hx;obtain⟨d1,d2,d3,d5,d6,d7,d8,d9,d10,d11⟩:=FY yL;obtain⟨yes,no,l,hk⟩:∃yes no l,re.kids=yes::no::l:=by
   cases hh:re.kids with
   |nil=>rw[hh]at hx;cases hx
   |cons y l=>cases l with
    |nil=>rw[hh]at hx;cases hx
    |cons y' l=>exact⟨y,y',l,rfl⟩
  rw[hk]at hx;simp only at hx;have jX:re.kids[0]?=some yes:=by rw[hk];rfl
  have sY:re.kids[1]?=some no:=by rw[hk];rfl
  have mY:(0:Int)<(re.kids.length:Int):=by rw[hk,alg];omega
  have adK:(1:Int)<(re.kids.length:Int):=by rw[hk,alg,alg];omega
  by_cases hn:re.n<1\/(p.aj.length:Int)<re.n
  ·rw[be hn]at hx;cases hx
  rw[ap hn]at hx;obtain⟨y,qf⟩:∃y,p.aj[(re.n-1).toNat]?=some y:=cb;rw[getD_some qf]at hx;obtain⟨y1,y2⟩:=y;simp only at hx;have w0:IntKind.i64.wrap (re.n-1)=re.n-1:=bK _ ae;have fS:0<=re.n-1:=ae;have xz:re.n-1<(p.aj.length:Int):=ae;have ud:(0<=y1/\x=(m1,sq p 0 (.el yes) 0 0,true))\/(¬0<=y1/\x=(m1,sq p 0 (.el no) 0 0,true)):=by
   by_cases cx:0<=y1
   ·rw[be cx]at hx;cases hx;exact .inl ⟨cx,rfl⟩
   ·rw[ap cx]at hx;cases hx;exact .inr ⟨cx,rfl⟩
  clear hx;rcases hR with ⟨rfl,rfl,e4⟩|⟨rfl,_,e4⟩
  all_goals
   unfold aP.bw aP.aQ at bL;simp only[zM,cj]at bL;unfold aP.bw aP.aQ;refine br func102 ntmps102 results102 3 158456325028528677386111158247 ?_;simp only[zX,simprocAttr,-FF,zM,cj,bQ.d,Re.ah,e4];refine an (bL _) (λv s' hv=>?_);obtain⟨rfl,rfl⟩:=hv;simp only[zX,simprocAttr,-FF,zM,cj,alh,Re.ah,adK,sY,d1,d2,d3,d5,d6,d7,d8,d9,d10,d11,FD,decide_true,decide_false];refine cP mix [] [(0,[3],[]),(1,[3],[]),(3,[0],[]),(4,[0],[]),(5,[0],[])] ?_;simp only[zX,simprocAttr,-FF,zM,cj,Re.ah,w0,fS,xz,qf,bS,aU];refine⟨aF,?_⟩;rcases ud with ⟨cx,rfl⟩|⟨cx,rfl⟩
   all_goals
    simp only[zX,simprocAttr,-FF,zM,cj,Re.ah,cx,ge_iff_le,mY,jX,adK,sY];refine oX rfl ?_;simp only[zX,simprocAttr,-FF,zM,cj];first
     |(refine⟨aG m1 b a,?_⟩;simp only[zM,cj,sq,mP,bS,aU,bt.d,bQ.d,Re.ah];done)
     |exact⟨aG m1 b a,rfl⟩
     |exact aG m1 b a
 rw[ap yL]at hx;by_cases mZ:re.op=11
 ·rw[be mZ]at hx;obtain⟨d1,d2,d3,d5,d6,d7,d8,d9,d10,d11⟩:=FY mZ;by_cases hn:re.n<0\/5<re.n
  ·rw[be hn]at hx;cases hx
  rw[ap hn]at hx;cases hx;have has:=Ij re.n m1.t p.at_ ae ae t1 g5 t2;simp only[i64,bV]at has;cases hT:m1.dS with
  |false =>
   have hM:=ke m1 b a (.d (ar m1.t)) rfl;rw[IU hT]at bL ⊢;simp only[ar]at has;rcases hR with ⟨rfl,rfl,e4⟩|⟨rfl,_,e4⟩
   all_goals
    unfold aP.bw aP.aQ at bL;simp only[zM,cj]at bL;unfold aP.bw aP.aQ;refine br func102 ntmps102 results102 3 158456325028528677386111158247 ?_;simp only[zX,simprocAttr,-FF,zM,cj,bQ.d,Re.ah,e4];refine an (bL _) (λv s' hv=>?_);obtain⟨rfl,rfl⟩:=hv;simp only[zX,simprocAttr,-FF,zM,cj,alh,Re.ah,d1,d2,d3,d5,d6,d7,d8,d9,d10,d11,FD,decide_true,decide_false];refine cP mix [] [(0,[3],[]),(2,[0],[]),(3,[0],[]),(4,[0],[]),(6,[0],[]),(7,[0],[]),(8,[0],[]),(9,[3],[]),(10,[3],[]),(12,[4],[4])] ?_;simp only[zX,simprocAttr,-FF,zM,cj,ar,Re.ah];refine HD has ?_;simp only[zX,simprocAttr,-FF,zM,cj];first|exact⟨hM,rfl⟩|exact hM
  |true =>
   have hM:=ke m1 b a (.so 2 m1.nU 0 m1.t.length) rfl;have xb:=t3 hT;rw[I8 hT]at bL ⊢;rcases hR with ⟨rfl,rfl,e4⟩|⟨rfl,_,e4⟩
   all_goals
    unfold aP.bw aP.aQ at bL;simp only[zM,cj]at bL;unfold aP.bw aP.aQ;refine br func102 ntmps102 results102 3 158456325028528677386111158247 ?_;simp only[zX,simprocAttr,-FF,zM,cj,bQ.d,Re.ah,e4];refine an (bL _) (λv s' hv=>?_);obtain⟨rfl,rfl⟩:=hv;simp only[zX,simprocAttr,-FF,zM,cj,alh,Re.ah,d1,d2,d3,d5,d6,d7,d8,d9,d10,d11,FD,decide_true,decide_false];refine cP mix [] [(0,[3],[]),(2,[0],[]),(3,[0],[]),(4,[0],[]),(6,[0],[]),(7,[0],[]),(8,[0],[]),(9,[3],[]),(10,[3],[]),(11,[2],[]),(12,[4],[4])] ?_;simp only[zX,simprocAttr,-FF,zM,cj,Re.ah];refine LZ has xb rfl ?_;simp only[zX,simprocAttr,-FF,zM,cj];first|exact⟨hM,rfl⟩|exact hM
 rw[ap mZ]at hx;cases hx;have N:decide (re.op=1)=false/\decide (re.op=2)=false/\decide (re.op=3)=false/\decide (re.op=5)=false/\decide (re.op=6)=false/\decide (re.op=7)=false/\decide (re.op=8)=false/\decide (re.op=9)=false/\decide (re.op=10)=false/\decide (re.op=11)=false:=⟨ce o1,ce o2,ce o3,ce o5,ce o6,ce o7,ce o8,ce o9,ce yL,ce mZ⟩
 rcases hR with ⟨rfl,rfl,e4⟩|⟨rfl,_,e4⟩
 all_goals
  unfold aP.bw aP.aQ at bL;simp only[zM,cj]at bL;unfold aP.bw aP.aQ;refine br func102 ntmps102 results102 3 158456325028528677386111158247 ?_;simp only[zX,simprocAttr,-FF,zM,cj,bQ.d,Re.ah,e4];refine an (bL _) (λv s' hv=>?_);obtain⟨rfl,rfl⟩:=hv;simp only[zX,simprocAttr,-FF,zM,cj,alh,Re.ah,N];first
   |(refine⟨aG m1 b a,?_⟩;simp only[zM,cj,sq,mP,bS,aU,bt.d,bQ.d,Re.ah];done)
   |exact⟨aG m1 b a,rfl⟩
   |exact aG m1 b a
def CB (c:Int×Int):List V:=[.d (iD c.1),.d (iD c.2)]
theorem E3 (k bM:Nat) (s:List VL.Obj):∀L:aC,((L.map CB).mapM λ(e:List V)=>e.mapM (cJ (k+1) bM s))=some (L.map aU)
 |[]=>rfl
 |x::L=>by rw[ak8,ami,E3 k bM s L];rfl
theorem Hw (h:x=o):decide (x=0)=decide (o=0)/\decide (x=1)=decide (o=1)/\decide (x=2)=decide (o=2)/\decide (x=3)=decide (o=3)/\decide (x=4)=decide (o=4)/\decide (x=5)=decide (o=5):=by subst h;simp
theorem Kq (ih:nX k) (g b a:Nat) (m:aP) (p:aB) {x:Rs} (hx:vf (λm base p=>cL k true m base p true) m p=some x) :
  av prog 74 [.pp 0 g 0 0 b a,p.v b a] (m.bw g b a) λv s=>v=cj b a x.2.1 x.2.2/\s=x.1.bw g b a:=by
 obtain⟨pa,pc,todo⟩:=p;unfold vf at hx;by_cases hm:m.gF ⟨pa,pc,todo⟩
 case neg=>rw[be hm]at hx;cases hx
 rw[ap (by simpa using hm)]at hx;cases todo with
 |nil=>cases hx
 |mk kind r n at_ next =>
 have lE:=hm;obtain⟨⟨g1,g2,g3,g4⟩,⟨g5,g6,g7⟩,g8,g9⟩:=hm;simp only at g5 g6 g7;simp only at hx;by_cases c0:kind=0
 ·rw[be c0]at hx;obtain⟨d0,d1,d2,d3,d4,d5⟩:=Hw c0;have cQ:=λext=>fO (QE ih g b a m r ⟨pa,pc,next⟩ lE hx) rfl rfl rfl ext;obtain⟨m2,y1,y2⟩:=x;unfold aP.bw aP.aQ at cQ;simp only[zM,cj]at cQ;unfold aP.bw aP.aQ;refine br func74 ntmps74 results74 3 2098171 ?_;try simp only[zX,simprocAttr,-FF,zM,cj,bt.bP,d0,d1,d2,d3,d4,d5,FD,decide_true,decide_false]
  refine cP mix [6] [(5,[3],[]),(9,[4],[4])] ?_;try simp only[zX,simprocAttr,-FF,zM,cj]
  refine cU (cQ _) ?_;exact ZbK
 rw[ap c0]at hx;by_cases hn:n<0\/10000000000000<n
 ·rw[be hn]at hx;cases hx
 rw[ap hn]at hx;by_cases c1:kind=1
 ·rw[be c1]at hx;obtain⟨d0,d1,d2,d3,d4,d5⟩:=Hw c1;cases hl:m.lit r with
  |none=>rw[hl]at hx;cases hx
  |some re =>
  rw[hl]at hx;simp only at hx;by_cases dw:1000000000<re.kids.length
  ·rw[be dw]at hx;cases hx
  rw[ap dw]at hx;cases hk:re.kids[n.toNat]? with
  |none=>rw[hk]at hx;cases hx
  |some aJ =>
  rw[hk]at hx;simp only at hx;have q0:0<=n:=ae;have q1:n<(re.kids.length:Int):=by have:=(List.getElem?_eq_some_iff.1 hk).1;omega
  have w1:IntKind.i64.wrap (n+1)=n+1:=bK _ ae;have hkm:=hk;have q1m:=q1;by_cases c:n+1<(re.kids.length:Int)
  ·rw[be c]at hx;have cQ:=λext=>fO (Ic g b a m (sq ⟨pa,pc,next⟩ 1 r (n+1) 0) g3 g4) rfl rfl rfl ext;cases hx;have hmp:(m.push (sq ⟨pa,pc,next⟩ 1 r (n+1) 0)).p=m.p:=rfl;generalize Bt:m.push (sq ⟨pa,pc,next⟩ 1 r (n+1) 0)=m2 at *;rcases ft hl with ⟨lu,rk⟩|lu;all_goals
    clear hl;try subst rk
    try rw[<- hmp]at hkm q1m
    unfold aP.bw aP.aQ at cQ;simp only[zM,cj,sq,bt.d,lu,bQ.d,Re.ah]at cQ;unfold aP.bw aP.aQ;refine br func74 ntmps74 results74 3 2098171 ?_;try simp only[zX,simprocAttr,-FF,zM,cj,bt.bP,d0,d1,d2,d3,d4,d5,FD,decide_true,decide_false]
    refine cP mix [] [(9,[0],[]),(10,[0],[]),(11,[0],[]),(12,[0],[])] ?_;try simp only[zX,simprocAttr,-FF,zM,cj,lu,bQ.d,Re.ah,w1,c]
    refine aW cr.bu ?_;refine cP mix [] [(9,[3],[]),(10,[3],[]),(12,[6],[6]),(13,[5],[]),(14,[5],[5])] ?_;try simp only[zX,simprocAttr,-FF,zM,cj,hole,w1]
    refine bC [6] (by simp [bI,bU,bq.go,bq,cJ,bt.d,lu,bQ.d,Re.ah,iD,bD]) (an (cQ _) (λv s' hv=>?_));obtain⟨rfl,rfl⟩:=hv;try simp only[zX,simprocAttr,-FF,zM,cj,lu,bQ.d,Re.ah]
    refine cP mix [13] [(5,[0],[]),(6,[0],[]),(7,[0],[])] ?_;try simp only[zX,simprocAttr,-FF,zM,cj,hk,q0,q1,lu,bQ.d,Re.ah,hkm,q1m]
    refine cU (AP rfl ⟨rfl,rfl⟩) ?_;try simp only[zX,simprocAttr,-FF,zM,cj,lu,bQ.d,Re.ah]
    first
     |(refine⟨aG m2 b a,?_⟩;simp only[zM,cj,sq,bS,bt.d,lu,bQ.d,Re.ah];done)
     |exact⟨aG m2 b a,rfl⟩
     |exact aG m2 b a
  ·rw[ap c]at hx;cases hx;rcases ft hl with ⟨lu,rk⟩|lu;all_goals
    clear hl;try subst rk
    unfold aP.bw aP.aQ;refine br func74 ntmps74 results74 3 2098171 ?_;try simp only[zX,simprocAttr,-FF,zM,cj,bt.bP,d0,d1,d2,d3,d4,d5,FD,decide_true,decide_false]
    refine cP mix [] [(9,[0],[]),(10,[0],[]),(11,[0],[]),(12,[0],[])] ?_;try simp only[zX,simprocAttr,-FF,zM,cj,lu,bQ.d,Re.ah,w1,c]
    refine cP mix [13] [(5,[0],[]),(6,[0],[]),(7,[0],[])] ?_;try simp only[zX,simprocAttr,-FF,zM,cj,hk,q0,q1,lu,bQ.d,Re.ah]
    refine cU (AP rfl ⟨rfl,rfl⟩) ?_;try simp only[zX,simprocAttr,-FF,zM,cj,lu,bQ.d,Re.ah]
    first
     |(refine⟨aG m b a,?_⟩;simp only[zM,cj,sq,bS,bt.d,lu,bQ.d,Re.ah];done)
     |exact⟨aG m b a,rfl⟩
     |exact aG m b a
 rw[ap c1]at hx;by_cases c2:kind=2
 ·rw[be c2]at hx;obtain⟨d0,d1,d2,d3,d4,d5⟩:=Hw c2;have cQ:=λext=>fO (QF g b a m r n at_ next ⟨pa,pc,next⟩ lE ae ae hx) rfl rfl rfl ext;obtain⟨m2,y1,y2⟩:=x;unfold aP.bw aP.aQ at cQ;simp only[zM,cj,bt.bP]at cQ;subst c2;unfold aP.bw aP.aQ;refine br func74 ntmps74 results74 3 2098171 ?_;try simp only[zX,simprocAttr,-FF,zM,cj,bt.bP,d0,d1,d2,d3,d4,d5,FD,decide_true,decide_false]
  refine an (cQ _) (λv s' hv=>?_);obtain⟨rfl,rfl⟩:=hv;exact ZbK
 rw[ap c2]at hx;by_cases c3:kind=3
 ·rw[be c3]at hx;obtain⟨d0,d1,d2,d3,d4,d5⟩:=Hw c3;unfold aP.bw aP.aQ;refine br func74 ntmps74 results74 3 2098171 ?_;try simp only[zX,simprocAttr,-FF,zM,cj,bt.bP,d0,d1,d2,d3,d4,d5,FD,decide_true,decide_false]
  refine cP mix [] [(0,[3],[]),(1,[3],[])] ?_;by_cases c:pa=at_
  ·rw[be c]at hx;cases hx;have dc:decide (pa=at_)=true:=bi c;try simp only[zX,simprocAttr,-FF,zM,cj,dc]
   exact Zbl
  ·rw[ap c]at hx;cases hx;have dc:decide (pa=at_)=false:=ce c;try simp only[zX,simprocAttr,-FF,zM,cj,dc]
   refine cP mix [9] [] ?_;try simp only[zX,simprocAttr,-FF,zM,cj]
   refine cU (AP rfl ⟨rfl,rfl⟩) ?_;try simp only[zX,simprocAttr,-FF,zM,cj]
   exact Zbl
 rw[ap c3]at hx;by_cases c4:kind=4
 ·rw[be c4]at hx;obtain⟨d0,d1,d2,d3,d4,d5⟩:=Hw c4;cases hl:m.lit r with
  |none=>rw[hl]at hx;cases hx
  |some re =>
  rw[hl]at hx;simp only at hx;by_cases hnn:re.n<1\/(pc.length:Int)<re.n
  ·rw[be hnn]at hx;cases hx
  rw[ap hnn]at hx;cases hx;have w0:IntKind.i64.wrap (re.n-1)=re.n-1:=bK _ ae;have q0:0<=re.n-1:=ae;have q1:re.n-1<(pc.length:Int):=ae;have ae3:ib (List.replicate pc.length [V.d (D.sc (Value.int IntKind.i64 0)),V.d (D.sc (Value.int IntKind.i64 0))]) 0 (List.map (λx=>List.map V.d x) (List.map aU pc))=pc.map CB:=by unfold ib;rw[amj,ak6,List.drop_of_length_le aq,amv,alH];rfl
  obtain⟨y,hy⟩:∃y,pc[(re.n-1).toNat]?=some y:=cb;have gE:(pc.map CB)[(re.n-1).toNat]?=some [V.d (D.sc (Value.int IntKind.i64 y.1)),V.d (D.sc (Value.int IntKind.i64 y.2))]:=by rw[List.getElem?_map,hy];rfl
  have fB:(pc.map CB).set (re.n-1).toNat [V.d (D.sc (Value.int IntKind.i64 at_)),V.d (D.sc (Value.int IntKind.i64 pa))]=(pc.set (re.n-1).toNat (at_,pa)).map CB:=by rw[ams];rfl
  have hfz:∀s:List VL.Obj,(List.take pc.length (List.map CB (List.set pc (re.n-1).toNat (at_,pa)))).mapM (λe=>e.mapM (cJ 7 3 s))=some ((List.set pc (re.n-1).toNat (at_,pa)).map aU):=by intro s;rw[aln aq];exact E3 6 3 s _
  rcases ft hl with ⟨rfl,rfl⟩|rfl;all_goals
   unfold aP.bw aP.aQ;refine br func74 ntmps74 results74 3 2098171 ?_;try simp only[zX,simprocAttr,-FF,zM,cj,bt.bP,d0,d1,d2,d3,d4,d5,FD,decide_true,decide_false]
   try simp only[zX,simprocAttr,-FF,zM,cj,bS,ak4]
   refine⟨⟨alj _,by (try simp);omega,ae⟩,?_⟩;try simp only[zX,simprocAttr,-FF,zM,cj,xN,ak4,alQ,ae3]
   refine⟨λe he=>by obtain⟨y,hy,rfl⟩:=List.mem_map.1 he;obtain⟨c,_,rfl⟩:=List.mem_map.1 hy;rfl,⟨ae,ale _⟩,?_⟩;refine cP mix [] [(5,[0],[]),(6,[0],[]),(7,[0],[]),(13,[3],[]),(14,[3],[]),(16,[5],[]),(17,[5],[5])] ?_;try simp only[zX,simprocAttr,-FF,zM,cj,bQ.d,Re.ah,w0,q0,q1,alc,gE,fB,alu,ale,ala,hfz]
   first
    |(refine⟨aG m b a,?_⟩;simp only[zM,cj,sq,bS,bt.d,bQ.d,Re.ah];done)
    |exact⟨aG m b a,rfl⟩
    |exact aG m b a
 rw[ap c4]at hx;by_cases c5:kind=5
 ·rw[be c5]at hx;obtain⟨d0,d1,d2,d3,d4,d5⟩:=Hw c5;cases hx;unfold aP.bw aP.aQ;refine br func74 ntmps74 results74 3 2098171 ?_;try simp only[zX,simprocAttr,-FF,zM,cj,bt.bP,d0,d1,d2,d3,d4,d5,FD,decide_true,decide_false]
  refine cP mix [] [(0,[3],[]),(1,[3],[]),(2,[3],[]),(8,[4],[4])] ?_;try simp only[zX,simprocAttr,-FF,zM,cj]
  exact Zbl
 rw[ap c5]at hx;cases hx
def pO (b a:Nat) (p:aB):List VL.Obj:=[⟨0,true,3,[[.d (iD p.at_),.d (bS p.aj),.d (p.todo.d b a)]]⟩,⟨0,true,3,[[.d (iD 0),.fu [],.d (.sc (.pointer none))]]⟩]
theorem XG (m:aP) (b a:Nat):(m.iq.map (Pg b a)).set (m.top-1) [.d (.sc (.int .i64 0)),.fu [],.d (.sc (.pointer none))]=m.pop.iq.map (Pg b a):=by unfold aP.pop;simp only[ams,Pg]
theorem Ki (ih:∀j,j<k->nX j):nX k:=by
 intro g b a m base p alive x hx;unfold aP.bw aP.aQ;refine br func34 ntmps34 results34 3 1871 ?_;simp only[zX,simprocAttr,zM,cj];refine ay (λn e s=>∃(j:Nat) (m1:aP) (p1:aB) (al:Bool),n=j/\j<=k/\e 0=.pp 0 g 0 0 b a/\e 1=i64 (base:Nat)/\e 3=bV al/\e 6=.rf 3 0 0 0/\e 8=.rf 4 0 0 0/\s=m1.bw g b a++pO b a p1/\cL j true m1 base p1 al=some x)
  ⟨_,_,_,bO.refl,k,m,p,alive,rfl,ale _,rfl,rfl,rfl,rfl,rfl,rfl,hx⟩ ?_
 clear hx;rintro n e s ⟨j,m1,p1,al,rfl,hj,h0,h1,h3,h6,h8,rfl,hx⟩;cases n with
 |zero=>cases hx
 |succ j =>
  by_cases lQ:m1.cz=true
  ·have ky:=hx;simp only[cL]at ky;rw[be ⟨trivial,lQ⟩]at ky;cases ky;unfold aP.bw aP.aQ pO;simp only[zX,simprocAttr,zM,cj,h0,h1,h3,h6,h8,lQ,alh];exact⟨aG m1 b a,rfl⟩
  ·have abc:m1.cz=false:=by simpa using lQ
   have hx2:cL (j+1) false m1 base p1 al=some x:=by simp only[cL]at hx ⊢;rw[ap (λh=>lQ h.2)]at hx;rw[ap (λh=>by cases h.1)];exact hx
   clear hx;unfold aP.bw aP.aQ pO;simp only[zX,simprocAttr,zM,cj,h0,h1,h3,h6,h8,abc,ali];refine ay (λn e s=>∃(i:Nat) (m2:aP) (p2:aB) (al2:Bool),n=i/\i<=j+1/\e 0=.pp 0 g 0 0 b a/\e 1=i64 (base:Nat)/\e 3=bV al2/\e 6=.rf 3 0 0 0/\e 8=.rf 4 0 0 0/\s=m2.bw g b a++pO b a p2/\cL i false m2 base p2 al2=some x)
    ⟨_,_,_,bO.refl,j+1,m1,p1,al,rfl,ale _,?_,?_,?_,?_,?_,?_,hx2⟩ ?_ <;> (try simp only[zU,Ft,qa,qe,Fp,reduceIte])
   ·exact h0
   ·exact h1
   ·exact h3
   ·exact h6
   ·exact h8
   ·unfold aP.bw aP.aQ pO;simp only[abc];rfl
   clear hx2 h0 h1 h3 h6 h8 lQ abc;rintro n e s ⟨i,m2,p2,al2,rfl,hi,h0,h1,h3,h6,h8,rfl,hx⟩;cases n with
   |zero=>cases hx
   |succ i =>
    simp only[cL]at hx;rw[ap (λh=>by cases h.1)]at hx;by_cases hc:al2=true/\p2.goals=true
    ·rw[be hc]at hx;obtain⟨rfl,hg⟩:=hc;obtain⟨pa,pc,todo⟩:=p2;cases todo with
     |nil=>cases hg
     |mk kind r kn at_ next =>
      cases tX:vf (λm base p=>cL i true m base p true) m2 ⟨pa,pc,.mk kind r kn at_ next⟩ with
      |none=>rw[tX]at hx;cases hx
      |some y =>
       obtain⟨m3,p3,al3⟩:=y;rw[tX]at hx;simp only at hx;have cQ:=λext=>fO (Kq (ih i ae) g b a m2 _ tX) rfl rfl rfl ext;unfold aP.bw aP.aQ at cQ;simp only[zM,cj,bt.bP]at cQ;unfold aP.bw aP.aQ pO;simp only[zX,simprocAttr,zM,cj,bt.bP,h0,h1,h3,h6,h8];refine⟨⟨_,rfl⟩,?_⟩;refine an (cQ _) (λv s' hv=>?_);obtain⟨rfl,rfl⟩:=hv;simp only[zX,simprocAttr,zM,cj,h0,h1,h3,h6,h8];refine⟨i,_,_,ae,bO.refl,i,m3,p3,al3,rfl,ae,?_,?_,?_,?_,?_,rfl,hx⟩ <;> (try simp only[zU,Ft,qa,qe,Fp,reduceIte])
       ·exact h0
       ·exact h1
       ·exact h6
       ·exact h8
    ·rw[ap hc]at hx;obtain⟨pa,pc,todo⟩:=p2;cases al2 with
     |true =>
      cases todo with
      |mk _ _ _ _ _=>exact absurd ⟨rfl,rfl⟩ hc
      |nil =>
       rw[be rfl]at hx;cases hx;unfold aP.bw aP.aQ pO;simp only[zX,simprocAttr,zM,cj,bt.d,h0,h1,h3,h6,h8];refine⟨⟨_,rfl⟩,?_⟩;refine cP mix [] [(0,[3],[]),(2,[0],[]),(3,[0],[]),(4,[0],[]),(6,[4],[4])] ?_;simp only[zX,simprocAttr,zM,cj,bt.d,h0,h1,h3,h6,h8];first|exact⟨aG m2 b a,rfl⟩|exact aG m2 b a
     |false =>
      rw[ap (λh=>by cases h)]at hx;by_cases hb:m2.top=base
      ·rw[be hb]at hx;cases hx;have hbi:((m2.top:Int)=(base:Int))=True:=eq_true ae;unfold aP.bw aP.aQ pO;simp only[zX,simprocAttr,zM,cj,h0,h1,h3,h6,h8,hbi];first|exact⟨aG m2 b a,rfl⟩|exact aG m2 b a
      ·rw[ap hb]at hx;have hbi:((m2.top:Int)=(base:Int))=False:=eq_false ae;by_cases ht:m2.top=0\/m2.iq.length<m2.top\/1200000000000<m2.top
       ·rw[be ht]at hx;cases hx
       rw[ap ht]at hx;cases hl:m2.iq[m2.top-1]? with
       |none=>rw[hl]at hx;cases hx
       |some o =>
        rw[hl]at hx;cases o with
        |none=>cases hx
        |some last =>
         simp only at hx;have MV:Pg b a (some last)=[V.d (D.sc (.int .i64 last.at_)),.d (bS last.aj),.d (last.todo.d b a)]:=rfl;have w1:IntKind.i64.wrap ((m2.top:Int)-1)=(m2.top:Int)-1:=bK _ ae;have tP:=XG m2 b a;have q1:(0:Int)<=(m2.top:Int)-1:=ae;have q2:(m2.top:Int)-1<(m2.top:Int):=ae;have q3:((m2.top:Int)-1).toNat=m2.top-1:=ae;have q4:(m2.top:Int)-1<=(m2.top:Int):=ae;have q5:m2.top<=m2.iq.length:=ae;have q6:m2.pop.iq.length=m2.iq.length:=by simp [aP.pop]
         have q7:m2.top<=m2.pop.iq.length:=ae;have q8:min m2.top m2.pop.iq.length=m2.top:=ae;have q9:min m2.top m2.iq.length=m2.top:=ae;unfold aP.bw aP.aQ pO;simp only[zX,simprocAttr,zM,cj,h0,h1,h3,h6,h8,hbi,w1,q1,q2,q3,q4,q5,q6,q7,q8,q9,alc,hl,MV,tP,ala,alM,ak4,alg,alf,List.drop,List.take,Int.sub_zero];refine⟨i,_,_,ae,bO.refl,i,m2.pop,last,true,rfl,ae,?_,?_,?_,?_,?_,rfl,hx⟩ <;> (try simp only[zU,Ft,qa,qe,Fp,reduceIte])
         ·exact h0
         ·exact h1
         ·exact h6
         ·exact h8
theorem Rg (k:Nat):nX k:=by
 induction k using Nat.strongRecOn with
 |ind k ih=>exact Ki ih
theorem T9 (c:aC):∀e∈(c.map aU).map (λx=>x.map V.d),e.length=2:=by intro e he;obtain⟨y,hy,rfl⟩:=List.mem_map.1 he;obtain⟨z,_,rfl⟩:=List.mem_map.1 hy;rfl
theorem IN (l:aC) (hl:l.length<=1000000000):aS prog 73 [.d (bS l)] (.d (bS l)):=by
 unfold bS;refine br func73 ntmps73 results73 0 5 ?_;cases l with
 |nil =>
  simp only[zX,simprocAttr,];first|rfl|exact⟨⟨_,rfl⟩,rfl⟩|exact⟨⟨_,rfl⟩,aq,aq⟩
 |cons x l =>
  simp only[zX,simprocAttr,];have he:(List.map V.d (aU x)::List.map (λx=>List.map V.d x) (List.map aU l))=((x::l).map aU).map (λc=>c.map V.d):=rfl;simp only[alg]at hl;refine⟨⟨_,rfl⟩,by rw[he];exact T9 (x::l),⟨ae,aq⟩,?_⟩;rw[he,fI 7 0 _ _ (0+(l.length+1)) aq,rY];rfl
def ko (aM:Bool) (t:List Int) (at_ fuel:Int):Int :=
 if 65536<t.length then 4 else if t.all (eM aM)=false then 1 else if fuel<0\/1099511627776<fuel then 1 else if at_<0\/(t.length:Int)<at_ then 5 else 0
def aP.res (m:aP) (p:aB) (found:Bool):List V :=
 if m.cz=true then [i64 0,i64 0,.d (.sl []),bV false,i64 0,i64 11]
 else if found=true then [i64 m.start,i64 p.at_,.d (bS p.aj),bV true,i64 m.steps,i64 0]
 else [i64 0,i64 0,.d (.sl []),bV false,i64 m.steps,i64 0]
def aP.done (m:aP) (found:Bool):aP:={ m with ready:=found&&!m.cz }
theorem Rb (g b a:Nat) (m:aP) (p:aB) (found:Bool) (hc:p.aj.length<=1000000000):av prog 33 [.pp 0 g 0 0 b a,p.v b a,bV found] (m.bw g b a) λv s=>v=.ag (m.res p found)/\s=(m.done found).bw g b a:=by
 have xY:=IN p.aj hc;have hM:=aG (m.done found) b a;have hT:(m.done found).text=m.text:=rfl;unfold aP.bw aP.aQ;rw[hT];cases hs:m.cz with
 |true =>
  have hr:m.res p found=[i64 0,i64 0,.d (.sl []),bV false,i64 0,i64 11]:=be hs;rw[hr];cases found with
  |true =>
   exact Zeb
  |false =>
   exact Zeb
 |false =>
  have hr:m.res p found=if found=true then [i64 m.start,i64 p.at_,.d (bS p.aj),bV true,i64 m.steps,i64 0] else [i64 0,i64 0,.d (.sl []),bV false,i64 m.steps,i64 0]:=ap (by rw[hs];exact alJ)
  rw[hr];cases found with
  |true =>
   rw[be rfl];refine br func33 ntmps33 results33 3 215 ?_;simp only[zX,simprocAttr,zM,cj,hs,ali];refine cP mix [] [(1,[0],[]),(2,[0],[]),(3,[0],[]),(4,[3],[]),(5,[3],[]),(6,[3],[]),(7,[3],[]),(10,[5],[]),(11,[5],[5])] ?_;simp only[zX,simprocAttr,zM,cj];refine HD xY ?_;simp only[zX,simprocAttr,zM,cj];exact Zbp
  |false =>
   rw[ap alJ];refine br func33 ntmps33 results33 3 215 ?_;simp only[zX,simprocAttr,zM,cj,hs,ali];exact Zbp
def aP.kept (m:aP):aP:=if m.ready=true/\0<m.top then { m with dS:=true,own:=m.t,nU:=m.nU+1 } else { m with t:=[],dS:=false }
def aP.mO (m:aP):V:=if m.ready=true/\0<m.top then .so 2 (m.nU+1) 0 m.t.length else .fu []
theorem WG (g b a:Nat) (m:aP) (ht:m.t.length<=1000000) (hT:m.dS=false):av prog 36 [.pp 0 g 0 0 b a] (m.bw g b a) λv s=>v=.tu []/\s=m.kept.aQ g b a m.mO:=by
 rw[IU hT];by_cases c:m.ready=true/\0<m.top
 ·have e1:m.kept={ m with dS:=true,own:=m.t,nU:=m.nU+1 }:=be c;have e2:m.mO=.so 2 (m.nU+1) 0 m.t.length:=be c;rw[e1,e2];have hM:=ke { m with dS:=true,own:=m.t,nU:=m.nU+1 } b a (.so 2 (m.nU+1) 0 m.t.length) rfl;have c2:(0:Int)<(m.top:Int):=ae;unfold aP.aQ;refine br func36 ntmps36 results36 3 1 ?_;simp only[zX,simprocAttr,zM,cj,ar,c.1,c2,gt_iff_lt];refine cP mix [] [(2,[0],[]),(3,[0],[]),(4,[0],[]),(5,[2],[]),(7,[0],[]),(8,[0],[]),(9,[0],[]),(10,[2],[2]),(11,[0],[]),(12,[0],[]),(13,[0],[0])] ?_;simp only[zX,simprocAttr,zM,cj,ar,alM,ak4,Nat.min_self,ale,Int.sub_self,Int.toNat_zero,alc,Jk];have hmm:(m.t.map λx=>[D.sc (Value.int IntKind.i64 x)]).map (λx=>x.map V.d)=m.t.map λx=>[V.d (D.sc (Value.int IntKind.i64 x))]:=by rw[alH];rfl
  rw[hmm];exact⟨λe he=>by obtain⟨x,_,rfl⟩:=List.mem_map.1 he;rfl,⟨ae,ae⟩,hM,rfl⟩
 ·have e1:m.kept={ m with t:=[],dS:=false }:=ap c;have e2:m.mO=.fu []:=ap c;rw[e1,e2];have hM:=ke { m with t:=[],dS:=false } b a (.fu []) rfl;cases hr:m.ready with
  |false =>
   unfold aP.aQ;refine br func36 ntmps36 results36 3 1 ?_;simp only[zX,simprocAttr,zM,cj,hr];exact ZaT
  |true =>
   have c2:¬(0:Int)<(m.top:Int):=λh=>c ⟨hr,ae⟩;unfold aP.aQ;refine br func36 ntmps36 results36 3 1 ?_;simp only[zX,simprocAttr,zM,cj,hr,c2,gt_iff_lt];first|exact⟨hM,rfl⟩|exact hM
theorem Mj (n:Int):IntKind.u64.wrap n=n % 18446744073709551616:=by simp [IntKind.wrap,IntKind.bits,IntKind.signed]
theorem OV (x top:Int) (hx:jD x) (h0:0<=top) (h1:top<=1114111):(IntKind.u64.wrap top<IntKind.u64.wrap x) ↔ ¬(0<=x/\x<=top):=by unfold jD at hx;rw[Mj,Mj];omega
theorem pw (aM:Bool):0<=e8 aM/\e8 aM<=1114111:=by unfold e8;split <;> omega
theorem JY (g b a:Nat) (m:aP) (T:V) (hT:ak 3 T=true) (t:List Int) (at_ fuel:Int) (ht:t.length<=1000000000) (hI:∀x∈t,jD x) :
  av prog 32 [.pp 0 g 0 0 b a,.d (ar t),i64 at_,i64 fuel] (m.aQ g b a T) λv s=>v=i64 (ko m.p.aM t at_ fuel)/\s=m.aQ g b a T:=by
 have hM:=ke m b a T hT;have htp:=pw m.p.aM;unfold ko;by_cases c1:65536<t.length
 ·rw[be c1];have U0:(65536:Int)<(t.length:Int):=ae;cases hr:m.p.aM with
  |true =>
   exact ZdX
  |false =>
   exact ZdX
 ·rw[ap c1];have U0:¬(65536:Int)<(t.length:Int):=ae;cases hr:m.p.aM with
  |true =>
   unfold aP.aQ;refine br func32 ntmps32 results32 3 7342863 ?_;simp only[zX,simprocAttr,zM,cj,hr,ar,U0,gt_iff_lt];refine ay (λn e s=>∃i:Nat,n=t.length-i/\i<=t.length/\e 1=.d (ar t)/\e 2=i64 at_/\e 3=i64 fuel/\e 9=i64 (e8 true)/\e 20=.d (ar t)/\e 21=i64 t.length/\e 22=i64 i/\s=m.aQ g b a T/\(t.take i).all (eM true)=true)
    ⟨_,_,_,bO.refl,0,rfl,ae,rfl,rfl,rfl,rfl,rfl,rfl,rfl,by unfold aP.aQ;rw[hr];rfl,aq⟩ ?_
   rintro n e s ⟨i,rfl,hi,h1,h2,h3,h9,ku,KX,zd,rfl,bR⟩;rcases alw i t.length with aE|gE
   ·obtain⟨x,hx⟩:∃x,t[i]?=some x:=cb aE;have aH:(i:Int)<t.length:=ae;have hs:=OV x (e8 true) (hI x (List.mem_of_getElem? hx)) (pw true).1 (pw true).2;by_cases d1:0<=x/\x<=e8 true
    ·have jT:¬IntKind.u64.wrap (e8 true)<IntKind.u64.wrap x:=λh=>hs.1 h d1;simp only[zX,simprocAttr,zM,cj,h1,h2,h3,h9,ku,KX,zd,aH,aE,ar,hx,gt_iff_lt,jT];refine⟨t.length-(i+1),_,_,ae,bO.refl,i+1,rfl,aE,?_,?_,?_,?_,?_,?_,?_,rfl,?_⟩ <;> (try simp only[zU,Ft,qa,qe,Fp,reduceIte])
     ·exact h1
     ·exact h2
     ·exact h3
     ·exact h9
     ·exact ku
     ·exact KX
     ·rw[bK _ ae];rfl
     ·exact nI hx bR (by rw[eM,bi d1.1,bi d1.2];rfl)
    ·have jT:IntKind.u64.wrap (e8 true)<IntKind.u64.wrap x:=hs.2 d1;have hf:t.all (eM true)=false:=all_false hx (by
      unfold eM;rw[alP];intro h;simp only[alo,decide_eq_true_eq]at h;exact d1 h)
     exact ZdZ
   ·exact Zaq
  |false =>
   unfold aP.aQ;refine br func32 ntmps32 results32 3 7342863 ?_;simp only[zX,simprocAttr,zM,cj,hr,ar,U0,gt_iff_lt];refine ay (λn e s=>∃i:Nat,n=t.length-i/\i<=t.length/\e 1=.d (ar t)/\e 2=i64 at_/\e 3=i64 fuel/\e 9=i64 (e8 false)/\e 20=.d (ar t)/\e 21=i64 t.length/\e 22=i64 i/\s=m.aQ g b a T/\(t.take i).all (eM false)=true)
    ⟨_,_,_,bO.refl,0,rfl,ae,rfl,rfl,rfl,rfl,rfl,rfl,rfl,by unfold aP.aQ;rw[hr];rfl,aq⟩ ?_
   rintro n e s ⟨i,rfl,hi,h1,h2,h3,h9,ku,KX,zd,rfl,bR⟩;rcases alw i t.length with aE|gE
   ·obtain⟨x,hx⟩:∃x,t[i]?=some x:=cb aE;have aH:(i:Int)<t.length:=ae;have hs:=OV x (e8 false) (hI x (List.mem_of_getElem? hx)) (pw false).1 (pw false).2;by_cases d1:0<=x/\x<=e8 false
    ·have jT:¬IntKind.u64.wrap (e8 false)<IntKind.u64.wrap x:=λh=>hs.1 h d1;simp only[zX,simprocAttr,zM,cj,h1,h2,h3,h9,ku,KX,zd,aH,aE,ar,hx,gt_iff_lt,jT];refine⟨t.length-(i+1),_,_,ae,bO.refl,i+1,rfl,aE,?_,?_,?_,?_,?_,?_,?_,rfl,?_⟩ <;> (try simp only[zU,Ft,qa,qe,Fp,reduceIte])
     ·exact h1
     ·exact h2
     ·exact h3
     ·exact h9
     ·exact ku
     ·exact KX
     ·rw[bK _ ae];rfl
     ·exact nI hx bR (by rw[eM,bi d1.1,bi d1.2];rfl)
    ·have jT:IntKind.u64.wrap (e8 false)<IntKind.u64.wrap x:=hs.2 d1;have hf:t.all (eM false)=false:=all_false hx (by
      unfold eM;rw[alP];intro h;simp only[alo,decide_eq_true_eq]at h;exact d1 h)
     exact ZdZ
   ·exact Zaq
def K9:List V->V
 |[x,y,c,d,e,f]=>.tu [.ag [x,y,c],d,e,f]
 |_=>.un
def aP.rest (m:aP):aP:={ m with ready:=false,top:=0 }
def aP.DP (m:aP) (t:List Int) (at_ fuel:Int):aP:={ m.rest with t:=t,dS:=false,start:=at_,steps:=0,fuel:=fuel,cz:=false }
def pH (m:aP) (at_:Int):aB:=⟨at_,List.replicate m.p.aj.toNat (-1,-1),.mk 0 .root 0 0 .nil⟩
theorem Ff{m':aP}{r T T':V} (h:av prog f cargs (m.aQ g b a T) λv s=>v=r/\s=m'.aQ g b a T') (hT:ak 3 T=true) (Ng:aI [0,1,2] T=T) (hT':ak 3 T'=true) (Y9:aI [0,1,2] T'=T')
  (ha:cargs.map (aI [0,1,2])=cargs) (xj:ak.go 3 cargs=true) (hr:aI [0,1,2] r=r) (ext:List VL.Obj):av prog f cargs (m.aQ g b a T++ext) λv s=>v=r/\s=m'.aQ g b a T'++ext:=by
 have Oz:∀(m:aP) (T:V),aI [0,1,2] T=T->(m.aQ g b a T).map (ba [0,1,2])=m.aQ g b a T:=by
  intro m T hT;unfold aP.aQ;simp only[ak8,ak9,List.cons.injEq,and_true];refine⟨?_,?_,?_⟩
  ·unfold ba;simp [aI.go,aI,hT,i64,bV]
  ·exact Zcb
  ·exact xS [0,1,2] m.nU true 1 m.own iD
 refine dD [0,1,2] h aF eh ?_ ha.symm xj (rn g b a m _ 3 (ale _) hT) hr ?_
 ·have e:(m.aQ g b a T).map (λo=>some (ba [0,1,2] o))=(m.aQ g b a T).map some:=by
   conv=>rhs;rw[<- Oz m T Ng]
   rw[alH];rfl
  rw[e];rfl
 ·rw[Oz m' T' Y9];exact⟨rfl,rfl⟩
theorem VC (g b a:Nat) (m:aP) (T:V) (hT:ak 3 T=true) (Ng:aI [0,1,2] T=T) (TL:m.top<=m.iq.length) (t:List Int) (at_ fuel:Int) (ht:t.length<=1000000000) (hI:∀x∈t,jD x) (hc:ko m.p.aM t at_ fuel≠0) :
  av prog 11 [.pp 0 g 0 0 b a,.d (ar t),i64 at_,i64 fuel] (m.aQ g b a T) λv s =>
   v=K9 [i64 0,i64 0,.d (.sl []),bV false,i64 0,i64 (ko m.p.aM t at_ fuel)]/\s=m.rest.aQ g b a T:=by
 have hM:=ke m.rest b a T hT;have Ar:=λext=>Ff (JY g b a m.rest T hT t at_ fuel ht hI) hT Ng hT Ng rfl rfl rfl ext;have WO:ko m.rest.p.aM t at_ fuel=ko m.p.aM t at_ fuel:=rfl;rw[WO]at Ar;generalize ko m.p.aM t at_ fuel=c at *;unfold aP.aQ at Ar;simp only[zM,cj]at Ar;have yH:min m.top m.iq.length=m.top:=ae;have q1:(0:Int)<=(m.top:Int):=ae;unfold aP.aQ;refine br func11 ntmps11 results11 3 6917529027641147151 ?_;try simp only[zX,simprocAttr,zM,cj,TL,yH,q1,alM,ak4,alj,Int.sub_self,Int.toNat_zero,alc,true_or]
 refine an (Ar _) (λv s' hv=>?_);obtain⟨rfl,rfl⟩:=hv;try simp only[zX,simprocAttr,zM,cj,hc,K9]
 exact ZaT
theorem SZ (h:av prog f [.pp 0 g 0 0 b a] (m.bw g b a) λv s=>v=.tu []/\s=m.kept.aQ g b a m.mO) (ext:List VL.Obj):av prog f [.pp 0 g 0 0 b a] (m.bw g b a++ext) λv s=>v=.tu []/\s=m.kept.aQ g b a m.mO++ext:=by unfold aP.bw at h ⊢;refine Ff h (yB m) (by unfold aP.text;split <;> rfl) (by unfold aP.mO;split <;> rfl) (by unfold aP.mO;split <;> rfl) rfl rfl rfl ext
theorem YM (m:aP) (p:aB) (found:Bool):∃d0 d1 d2 d3 d4 d5:D,m.res p found=[.d d0,.d d1,.d d2,.d d3,.d d4,.d d5]:=by
 unfold aP.res;split
 ·exact⟨_,_,_,_,_,_,rfl⟩
 ·split
  ·exact⟨_,_,_,_,_,_,rfl⟩
  ·exact⟨_,_,_,_,_,_,rfl⟩
def pJ (n i:Nat):aC:=List.replicate i (-1,-1)++List.replicate (n-i) (0,0)
theorem Sa (n:Nat):(pJ n 0).map CB=List.replicate n [V.d (D.sc (.int .i64 0)),V.d (D.sc (.int .i64 0))]:=by unfold pJ;simp only[List.replicate_zero,ak6,Nat.sub_zero,List.map_replicate];rfl
theorem Uk (n i:Nat) (h:i<n):((pJ n i).map CB).set i [V.d (D.sc (.int .i64 (-1))),V.d (D.sc (.int .i64 (-1)))]=(pJ n (i+1)).map CB:=by
 have:(pJ n i).set i (-1,-1)=pJ n (i+1):=by unfold pJ;rw[al0 _ _ aq,alQ,ame,show n-i=(n-(i+1))+1 by omega,List.replicate_succ,alA,List.replicate_succ',alx];rfl
 rw[<- this,ams];rfl
theorem Tj (n i:Nat) (h:i<n):((pJ n i).map CB)[i]?=some [V.d (D.sc (.int .i64 0)),V.d (D.sc (.int .i64 0))]:=by unfold pJ;rw[List.getElem?_map,List.getElem?_append_right aq,alQ,ame,show n-i=(n-(i+1))+1 by omega,List.replicate_succ];rfl
theorem Ry (n:Nat):pJ n n=List.replicate n (-1,-1):=by simp [pJ]
theorem Mh (n i:Nat) (h:i<=n):(pJ n i).length=n:=by simp [pJ];omega
theorem Xi (g b a:Nat) (m:aP) (T:V) (hT:ak 3 T=true) (Ng:aI [0,1,2] T=T) (TL:m.top<=m.iq.length) (t:List Int) (at_ fuel:Int) (ht:t.length<=1000000) (hI:∀x∈t,jD x) (hc:ko m.p.aM t at_ fuel=0) (n:Nat) (zn:m.p.aj=n) (hn:n<=1000000)
 {m2:aP}{p2:aB}{found:Bool} (hx:cL k true (m.DP t at_ fuel) 0 (pH m at_) true=some (m2,p2,found)) (B0:p2.aj.length<=1000000000) :
  av prog 11 [.pp 0 g 0 0 b a,.d (ar t),i64 at_,i64 fuel] (m.aQ g b a T) λv s =>
   v=K9 (m2.res p2 found)/\s=(m2.done found).kept.aQ g b a (m2.done found).mO:=by
 have Ar:=λext=>Ff (JY g b a m.rest T hT t at_ fuel ae hI) hT Ng hT Ng rfl rfl rfl ext;have WO:ko m.rest.p.aM t at_ fuel=0:=hc;rw[WO]at Ar;unfold aP.aQ at Ar;simp only[zM,cj]at Ar;have yH:min m.top m.iq.length=m.top:=ae;have q1:(0:Int)<=(m.top:Int):=ae;have Sv:=pj b a .root .nil;simp only[bt.d,bQ.d,iD]at Sv;have UH:=λext=>fO (Rg k g b a (m.DP t at_ fuel) 0 (pH m at_) true _ hx) rfl rfl rfl ext;have SI:(m.DP t at_ fuel).Fr m2:=zG _ _ _ _ _ _ _ hx;have hrp:=λext=>fO (Rb g b a m2 p2 found B0) rfl rfl (by obtain⟨_,_,_,_,_,_,h⟩:=YM m2 p2 found;rw[h];rfl) ext;have Ea:=λext=>SZ (WG g b a (m2.done found) (by rw[show (m2.done found).t=m2.t from rfl,SI.t];exact ht) (by rw[show (m2.done found).dS=m2.dS from rfl,SI.dS];rfl)) ext;obtain⟨d0,d1,d2,d3,d4,d5,RX⟩:=YM m2 p2 found;rw[RX]at hrp ⊢;have yO:(m2.done found).kept.aQ g b a (m2.done found).mO=(m2.done found).kept.aQ g b a (m2.done found).mO:=rfl;have hM:=ke (m2.done found).kept b a (m2.done found).mO (by unfold aP.mO;split <;> rfl);generalize hm4:(m2.done found).kept=m4 at *;generalize hT4:(m2.done found).mO=T4 at *;generalize hm3:m2.done found=m3 at *;unfold aP.bw at UH;rw[show (m.DP t at_ fuel).text=.d (ar t) from rfl]at UH;unfold aP.bw aP.aQ at hrp Ea;unfold aP.aQ at UH;simp only[zM,cj,pH,zn,ak7,bt.d,bQ.d,bS]at UH hrp Ea;have z0:(0:Int)<=(n:Int):=ae;have hfz:∀(bM:Nat) (s:List VL.Obj),(List.take n (List.map CB (pJ n n))).mapM (λe=>e.mapM (cJ 7 bM s))=some ((List.replicate n ((-1:Int),(-1:Int))).map aU):=by intro bM s;rw[aln (by rw[ak4,Mh n n (ale _)];exact ale _),E3 6 bM s,Ry]
 unfold aP.aQ;refine br func11 ntmps11 results11 3 6917529027641147151 ?_;try simp only[zX,simprocAttr,zM,cj,TL,yH,q1,alM,ak4,alj,Int.sub_self,Int.toNat_zero,alc,true_or]
 refine an (Ar _) (λv s' hv=>?_);obtain⟨rfl,rfl⟩:=hv;have ZO:m.rest.p.aj=n:=zn;try simp only[zX,simprocAttr,zM,cj,ZO,z0,ak7]
 refine⟨⟨alj _,by (try simp);omega,ae⟩,?_⟩;refine ay (λq e s=>∃i:Nat,q=n-i/\i<=n/\e 0=.pp 0 g 0 0 b a/\e 2=i64 at_/\e 8=.rf 3 0 0 0/\e 13=.so 4 0 0 n/\e 61=i64 n/\e 62=i64 i/\s=(m.DP t at_ fuel).aQ g b a (.d (ar t))++[⟨0,true,3,[[.d (iD 0),.d (iD 0),.fu []]]⟩,⟨0,true,2,(pJ n i).map CB⟩])
  ⟨_,_,_,bO.refl,0,rfl,ae,rfl,rfl,rfl,rfl,rfl,rfl,?_⟩ ?_
 ·rw[Sa];unfold aP.aQ;rw[show (m.DP t at_ fuel).p.aj=n from zn];rfl
 rintro q e s ⟨i,rfl,hi,h0,h2,h8,mE,rl,r8,rfl⟩;unfold aP.aQ;rcases alw i n with aE|gE
 ·have l0:(0:Int)<=(i:Int):=by omega
  have l1:(i:Int)<(n:Int):=ae;have hg:=Tj n i aE;have bL:=Uk n i aE;try simp only[zX,simprocAttr,zM,cj,h0,h2,h8,mE,rl,r8,l0,l1,ak7,alc,hg,bL]
  refine⟨n-(i+1),_,_,ae,bO.refl,i+1,rfl,aE,?_,?_,?_,?_,?_,?_,rfl⟩ <;> (try simp only[zU,Ft,qa,qe,Fp,reduceIte])
  ·exact h0
  ·exact h2
  ·exact h8
  ·exact mE
  ·exact rl
  ·rw[bK _ ae];rfl
 ·have eg:i=n:=by omega
  subst eg;try simp only[zX,simprocAttr,zM,cj,h0,h2,h8,mE,rl,r8,alZ]
  refine U1 ?_;simp only[ak8,ak9,Xu,al8];refine dk Sv ?_;try simp only[zX,simprocAttr,zM,cj,h0,h2,h8,mE,rl,r8]
  refine bC [4] (by simp [bI,bU,bq.go,bq,cJ,iD,hfz,Mh i i (ale _)]) (an (UH _) (λv s' hv=>?_));obtain⟨rfl,rfl⟩:=hv;try simp only[zX,simprocAttr,zM,cj,h0,h2,h8,mE,rl,r8]
  refine an (hrp _) (λv s' hv=>?_);obtain⟨rfl,rfl⟩:=hv;try simp only[zX,simprocAttr,zM,cj,h0,h2,h8,mE,rl,r8]
  refine an (Ea _) (λv s' hv=>?_);obtain⟨rfl,rfl⟩:=hv;try simp only[zX,simprocAttr,zM,cj,h0,h2,h8,mE,rl,r8]
  refine cP mix [] [(0,[5],[]),(1,[5],[]),(2,[5],[]),(3,[5],[]),(4,[5],[]),(5,[5],[]),(6,[5],[]),(7,[5],[]),(8,[3],[3])] ?_;try simp only[zX,simprocAttr,zM,cj,h0,h2,h8,mE,rl,r8,K9]
  exact hM
theorem SH {re:Re} (h:bX re aj top=true) (hk:re.kids.length<=1000000000):vB aj re=true:=by
 have hsh:=of_decide_eq_true (BB h hk);obtain⟨s1,s2,s3,s4⟩:=hsh;obtain⟨h1,h2,h3,h4,h5⟩:=eZ.1 h;refine bi ⟨λho=>?_,s2,s3,s4,λho=>?_,λho=>?_,λho=>?_⟩
 ·rcases ho with ho|ho
  ·intro hn;have:=h1.2.2.1;rw[hn,ho]at this;simp [cE]at this
  ·exact s1 ho
 ·rw[be ho]at h4;exact h4
 ·rw[bm,be ho]at h4;exact h4
 ·rw[be ho]at h3;exact h3.2.2.1
theorem VJ (re:Re) (h:re.whole aj top=true) (hs:re.size<=1000000):re.every (vB aj)=true:=by revert h hs;refine Re.ind (Q:=λre=>re.whole aj top=true->re.size<=1000000->re.every (vB aj)=true) (λre ih h hs=>?_) re;obtain⟨a1,a2⟩:=(Re.az re).1 h;have:=Re.mX re.kids;have:=Re.size_eq re;exact(Re.az re).2 ⟨SH a1 ae,λk hk=>ih k hk (a2 k hk) (by have:=Re.bZ hk;omega)⟩
theorem WL{ai:Int} (hv:e9 p t fuel=0) (a0:0<=at_) (a1:at_<=t.length) (hm:0<=ai->0<ai) (hp:m.p=p) :
  jI p.re t fuel p.aj.toNat 0 [] ai at_ (m.DP t at_ fuel) (pH m at_) true ⟨0,false,[],[]⟩ (ef p t at_ ai fuel).1 (ef p t at_ ai fuel).2:=by
 obtain⟨h1,h2,h3,h4,h5⟩:=n5 hv;obtain⟨k1,k2,k3,k4,k5⟩:=cW h1;obtain⟨n,e1,_⟩:=lg (ai:=ai) hv a0 a1;have cQ:(nR p).length=p.aj.toNat:=by unfold nR;rw[alQ]
 have r9:pH m at_=⟨at_,nR p,.mk 0 .root 0 0 .nil⟩:=by unfold pH nR;rw[hp]
 rw[r9];refine PA ⟨ae,ae,ae⟩ n ai _ _ _ _ e1 0 [] (m.DP t at_ fuel) ⟨at_,nR p,.mk 0 .root 0 0 .nil⟩ ⟨by show m.p.re=p.re;rw[hp],rfl,rfl,(λh=>by cases h),⟨rfl,rfl,by show 0<=_;omega⟩,rfl,rfl,alj _⟩
  ⟨rfl,alj _,h4,λh=>by have:=hm h;simpa using this⟩ (ale _) ⟨rfl,rfl,.tree rfl .nil⟩ ?_ a0 a1 ⟨by show (nR p).length<=_;omega,λq hq=>.inl (List.eq_of_mem_replicate hq)⟩ cQ
 refine⟨λ_=>?_,λh=>ae,λh=>ae,λh=>ae,λh=>ae,trivial⟩;have:((p.aj.toNat:Nat):Int)=p.aj:=ae;rw[this];exact VJ _ k5 ae
theorem ZS {P:Re}{F:Int}{nc:Nat}{q:aB}{al:Bool}{s:Int}{b:Bool}{x:bE} (h:jI P t F nc 0 [] 1 i m q al ⟨s,false,[],[]⟩ b x) :
  ∃m1 r found,Ev m 0 q al (m1,r,found)/\Po m m1/\m1.top<=m1.iq.length/\s<=x.steps/\r.aj.length<=nc /\
   ((x.empty=false/\m1.cz=false/\m1.steps=x.steps/\x.steps<=F/\((found=true/\∃e d,x.ends=[e]/\x.aj=[d]/\r=⟨e,d,.nil⟩)\/(found=false/\x.ends=[]/\x.aj=[]))) \/
    (x.empty=true/\m1.cz=true/\found=false)):=by
 obtain⟨R,m',h1,h2,h3,h4,h5,h6⟩:=h;simp only[ak6]at h1 h2;rcases h6 with ⟨k1,k2,k3,k4,kF,p',k5⟩|⟨k1,k2,k3,k4,kF,S',R0,e,d,k5,k6,k7⟩|⟨k1,k2,k3,k4,p',S',k5,k6⟩
 ·have hx:x.ends=[]:=alz (by have:=k3 ae;omega);have hR:R=[]:=by rw[h1]at hx;exact List.map_eq_nil_iff.1 hx
  subst hR;exact⟨m',.zero,false,vN k5 rfl (C0 k4.iq.2.1),h4,k4.iq.len,h5,Nat.zero_le _,.inl ⟨k2,k4.cz,k4.steps,kF,.inr ⟨rfl,by simpa using h1,by simpa using h2⟩⟩⟩
 ·have hR0:R0=[]:=by have:=congrArg List.length h1;rw[k6]at this;simp at this;exact alz ae
  subst hR0;simp only[ak6]at k6;subst k6;have he:Ev m 0 q al (m',⟨e,d,.nil⟩,true):=by refine vN k7 rfl ?_;have:=MX (m:=m') (base:=0) (p:=⟨e,d,.nil⟩) rfl;rwa [k5.cz]at this
  have hr:=h3 (e,d) aq;exact⟨m',_,true,he,h4,k5.iq.len,h5,by show d.length<=nc;rw[hr.2.2.2];exact ale _,.inl ⟨k2,k5.cz,k5.steps,kF,.inl ⟨rfl,e,d,by simpa using h1,by simpa using h2,rfl⟩⟩⟩
 ·have hx:x.ends=[]:=alz (by have:=k3 ae;omega);have hR:R=[]:=by rw[h1]at hx;exact List.map_eq_nil_iff.1 hx
  subst hR;have uF:∃m2,Ev m' 0 p' false (m2,.zero,false)/\m2.top<=m2.iq.length/\m2.cz=true/\Po m' m2:=by
   simp only[ak6]at k5;rcases List.eq_nil_or_concat S' with rfl|⟨S2,q2,rfl⟩
   ·exact⟨m',C0 k5.2.1,k5.len,k4,.refl _⟩
   ·have Tz:A6 m' (S2++[q2]):=by simpa [List.concat_eq_append]using k5
    refine⟨m'.pop,?_,Tz.last.2.len,k4,Oj m'⟩;have hl:=Tz.len;have ht:m'.top=S2.length+1:=by rw[Tz.2.1,ald];rfl
    refine⟨2,?_⟩;rw[cL.eq_2,ap (show ¬(false=true/\m'.cz=true) from λh=>by cases h.1),ap (λh=>by cases h.1),ap (λh=>by cases h),bm,ap (by have:=Tz.2.2;omega),Tz.last.1];simp only;rw[cL.eq_2,be ⟨rfl,k4⟩]
  obtain⟨m2,j1,j2,j3,j4⟩:=uF;exact⟨m2,.zero,false,vN k6 rfl j1,h4.trans j4,j2,h5,Nat.zero_le _,.inr ⟨k2,j3,rfl⟩⟩
noncomputable def Gx (p:fU) (t:List Int) (at_ fuel:Int):List V :=
 if iu p t at_ 1 fuel≠0 then [i64 0,i64 0,.d (.sl []),bV false,i64 0,i64 (iu p t at_ 1 fuel)]
 else match allM p t at_ 1 fuel with
  |[]=>[i64 0,i64 0,.d (.sl []),bV false,i64 (Ay p t at_ 1 fuel),i64 0]
  |(e,d)::_=>[i64 at_,i64 e,.d (bS d),bV true,i64 (Ay p t at_ 1 fuel),i64 0]
theorem W2 (hv:e9 p t fuel=0) (a0:0<=at_) (a1:at_<=t.length) (hp:m.p=p) :
  ∃k m2 r found,cL k true (m.DP t at_ fuel) 0 (pH m at_) true=some (m2,r,found)/\Po (m.DP t at_ fuel) m2/\m2.top<=m2.iq.length/\r.aj.length<=1000000000/\m2.res r found=Gx p t at_ fuel/\(m2.done found).ready=(decide (iu p t at_ 1 fuel=0)&&!(allM p t at_ 1 fuel).isEmpty):=by
 obtain⟨h1,h2,h3,h4,h5⟩:=n5 hv;obtain⟨k1,k2,k3,k4,k5⟩:=cW h1;have LK:=WL (ai:=1) hv a0 a1 (λ_=>ae) hp;obtain⟨m1,r,found,j1,j2,j3,_,j4,j5⟩:=ZS LK;obtain⟨k,hk⟩:=Uw (m:=m.DP t at_ fuel) rfl j1;have hE:iu p t at_ 1 fuel=if (ef p t at_ 1 fuel).2.empty=true then 11 else 0:=by unfold iu;rw[ap (by rw[hv];simp),bm]
 have bL:m1.start=at_:=j2.fr.start;refine⟨k,m1,r,found,hk,j2,j3,ae,?_,?_⟩
 ·unfold Gx aP.res;rcases j5 with ⟨l1,l2,l3,lF,l4⟩|⟨l1,l2,rfl⟩
  ·have U8:iu p t at_ 1 fuel=0:=by rw[hE,ap (by rw[l1];simp)]
   have hN:Ay p t at_ 1 fuel=(ef p t at_ 1 fuel).2.steps:=by unfold Ay;rw[be U8]
   have hMm:allM p t at_ 1 fuel=(ef p t at_ 1 fuel).2.ends.zip (ef p t at_ 1 fuel).2.aj:=by unfold allM;rw[be U8]
   rw[ap (by rw[l2];simp),ap (show ¬(iu p t at_ 1 fuel≠0) from by rw[U8];simp),hMm,hN,bL,l3];rcases l4 with ⟨rfl,e,d,q1,q2,rfl⟩|⟨rfl,q1,q2⟩
   ·rw[be rfl,q1,q2];rfl
   ·rw[ap aq,q1,q2];rfl
  ·have PE:iu p t at_ 1 fuel=11:=by rw[hE,be l1]
   rw[be l2,be (show iu p t at_ 1 fuel≠0 from by rw[PE];simp),PE]
 ·show (found&&!m1.cz)=_;rcases j5 with ⟨l1,l2,l3,lF,l4⟩|⟨l1,l2,rfl⟩
  ·have U8:iu p t at_ 1 fuel=0:=by rw[hE,ap (by rw[l1];simp)]
   have hMm:allM p t at_ 1 fuel=(ef p t at_ 1 fuel).2.ends.zip (ef p t at_ 1 fuel).2.aj:=by unfold allM;rw[be U8]
   rw[l2,U8,hMm];rcases l4 with ⟨rfl,e,d,q1,q2,rfl⟩|⟨rfl,q1,q2⟩
   ·rw[q1,q2];rfl
   ·rw[q1,q2];rfl
  ·rw[l2,hE,be l1];rfl
theorem UC (ht:t.length<=65536) (Ym:t.all (eM p.aM)=true) (ha:CD p=0) (h0:0<=i) (h1:i<=t.length) {F:Int} (f0:0<=F) (f1:F<=1099511627776) :
  rh p t i=0/\(iu p t i 1 F=11\/(iu p t i 1 F=0/\Bn p t i=(allM p t i 1 F).head?.map λx=>⟨i,x.1,x.2⟩)):=by
 have hs:ep p t=0:=by unfold ep;rw[ap (by rw[ha];simp),bm,ap (by rw[Ym];simp)]
 have hn:¬(i<0\/(t.length:Int)<i):=ae;have hv:=(rF ha).1;have VO:e9 p t F=0:=by unfold e9;rw[ap (by rw[hv];simp),bm,ap (by rw[Ym];simp),bm]
 refine⟨by unfold rh;rw[ap (by rw[hs];simp),ap hn],?_⟩;by_cases he:(ef p t i 1 F).2.empty=true
 ·left;unfold iu;rw[ap (by rw[VO];simp),ap hn,be he]
 ·right;have hE:iu p t i 1 F=0:=HJ VO h0 h1 (by simpa using he);refine⟨hE,?_⟩;unfold Bn;rw[ap (by rw[hs];omega)];exact Nq hs h0 h1 hE
theorem KT{f:Int} (h:iu p t i 1 f=11):Gx p t i f=[i64 0,i64 0,.d (.sl []),bV false,i64 0,i64 11]:=by unfold Gx;rw[be (by rw[h];decide),h]
theorem Rz{f:Int} (h:iu p t i 1 f=0):Gx p t i f=match allM p t i 1 f with
  |[]=>[i64 0,i64 0,.d (.sl []),bV false,i64 (Ay p t i 1 f),i64 0]
  |(e,d)::_=>[i64 i,i64 e,.d (bS d),bV true,i64 (Ay p t i 1 f),i64 0]:=by
 unfold Gx;rw[ap (by rw[h];simp)];all_goals (cases allM p t i 1 f <;> rfl)
theorem NU{f:Int}:∀x∈allM p t i n f,x.2.length<=1000000000:=by
 intro x hx;by_cases h:iu p t i n f=0
 ·obtain⟨VO,h0,h1,he⟩:=El h;obtain⟨_,_,e2⟩:=lg (ai:=n) VO h0 h1;obtain⟨new,tz,z1,z2,z3,z4,z5,z6⟩:=e2.more;unfold allM at hx;rw[be h]at hx;have hd:=(List.of_mem_zip hx).2;rw[z2]at hd;exact(z6 _ (by simpa using hd)).1.1
 ·unfold allM at hx;rw[ap h]at hx;cases hx
end Go.Proofs.YtjjfioalgbecmaaGreat
namespace Go.Proofs.YtjjfioalgbecmaaGreat
open Go.VL Go.Proofs.Tryz
variable{s:List VL.Obj}{K:V->List VL.Obj->Prop}
def wz (re:Re) (v:V):VL.Obj:=⟨0,true,8,[[i64 re.op,.d (.sl (re.set.map aU)),v,i64 re.mn,i64 re.mx,i64 re.mode,i64 re.n,bV re.neg]]⟩
def By:VL.Obj:=⟨0,true,8,[[i64 0,.fu [],.fu [],i64 0,i64 0,i64 0,i64 0,bV false]]⟩
theorem RF (re:Re) (hs:re.df=true):aS prog 25 [lI re] (lI re):=by
 revert hs;refine Re.ind (Q:=λre=>re.df=true->aS prog 25 [lI re] (lI re)) (λre ih hs=>?_) re;obtain⟨rm,hlen,JR⟩:=Re.gK hs;refine br func25 ntmps25 results25 0 57391 ?_;simp only[zJ,simprocAttr,-FF,au re,iD,bD];refine dk (GD re.set rm) ?_;simp only[zJ,simprocAttr,-FF,iD,bD];refine ay (λn e s=>∃i:Nat,n=re.kids.length-i/\i<=re.kids.length/\e 1=.rf 0 0 0 0/\e 2=.rf 1 0 0 0/\e 13=.d (.sl (re.kids.map Re.cells))/\e 14=i64 re.kids.length/\e 15=i64 i /\
   ((i=0/\s=[wz re (.fu []),By])\/∃g X,aY 4 X=true/\s=[wz re (.so 3 g 0 i),By,X,⟨g,true,8,((re.kids.take i).map Re.cells).map λc=>c.map V.d⟩]))
  ⟨_,_,_,bO.refl,0,rfl,ae,rfl,rfl,rfl,rfl,rfl,.inl ⟨rfl,rfl⟩⟩ ?_
 rintro n e s ⟨i,rfl,hi,h1,h2,mE,gP,lJ,kf⟩;rcases alw i re.kids.length with aE|gE
 ·obtain⟨k,hk⟩:∃k,re.kids[i]?=some k:=cb aE;have hm:=List.mem_of_getElem? hk;have IF:=JR k hm;rcases kf with ⟨rfl,rfl⟩|⟨g,X,hX,rfl⟩
  ·simp only[zW,simprocAttr,-FF,h1,h2,mE,gP,lJ,i64,bV,aE,hk,wz,By];refine cP mix [5,7] [] ?_;simp only[zW,simprocAttr,-FF,h1,h2,mE,gP,lJ,i64,bV];refine HD (ih k hm IF) ?_;simp only[zW,simprocAttr,-FF,h1,h2,mE,gP,lJ,i64,bV];refine⟨λx hx=>by rw[List.mem_singleton.1 hx];simp [Re.iJ],aq,re.kids.length-1,_,_,ae,bO.refl,1,rfl,ae,?_,?_,?_,?_,?_,.inr ⟨0,_,?_,by rw[bn hk];rfl⟩⟩ <;> (try simp only[zU,Ft,qa,qe,Fp,reduceIte])
   ·exact h1
   ·exact h2
   ·exact mE
   ·exact gP
   ·rw[bK _ ae];rfl
   ·simp [ak]
  ·simp only[zW,simprocAttr,-FF,h1,h2,mE,gP,lJ,i64,bV,aE,hk,wz,By];refine cP mix [5,7] [] ?_;simp only[zW,simprocAttr,-FF,h1,h2,mE,gP,lJ,i64,bV];refine HD (ih k hm IF) ?_;simp only[zW,simprocAttr,-FF,h1,h2,mE,gP,lJ,i64,bV];have afE:((((re.kids.take i).map Re.cells).map λc=>c.map V.d).take i)=((re.kids.take i).map Re.cells).map λc=>c.map V.d:=aln cV;refine⟨λx hx=>by rw[List.mem_singleton.1 hx];simp [Re.iJ],⟨cV,ae⟩,re.kids.length-(i+1),_,_,ae,bO.cut 4 ae rfl ?_ [1,2,13,14,15] ?_,i+1,rfl,ae,?_,?_,?_,?_,?_,.inr ⟨g+1,X,hX,?_⟩⟩ <;> (try simp only[zU,Ft,qa,qe,Fp,reduceIte])
   ·rw[afE];simp only[aY]at hX;simp [aY,ak,hX];intro x hx y hy;obtain⟨r,_,rfl⟩:=List.mem_map.1 (alU hx);obtain⟨d,_,rfl⟩:=List.mem_map.1 hy;rfl
   ·simp [ca,aZ,ak,h1,h2,mE,gP,i64]
   ·exact h1
   ·exact h2
   ·exact mE
   ·exact gP
   ·rw[bK _ ae];rfl
   ·rw[bn hk];simp [List.take_take]
 ·have eg:i=re.kids.length:=by omega
  subst eg;rcases kf with ⟨h0,rfl⟩|⟨g,X,hX,rfl⟩
  ·simp only[zW,simprocAttr,-FF,h1,h2,mE,gP,lJ,i64,bV,al5,wz,By];have:re.kids=[]:=alz h0;rw[this];rfl
  ·simp only[zW,simprocAttr,-FF,h1,h2,mE,gP,lJ,i64,bV,al5,wz,By];rw[alr,fI 7 0 _ _ _ aq,rY];rfl
def IK (p:fU):VL.Obj:=⟨0,true,19,[[.d (iD p.re.op),.d (.sl (p.re.set.map aU)),.d (.sl (p.re.kids.map Re.cells)),.d (iD p.re.mn),.d (iD p.re.mx),.d (iD p.re.mode),.d (iD p.re.n),.d (bD p.re.neg),i64 p.aj,bV p.aM,
 .fu [],.fu [],.fu [],i64 0,i64 0,i64 0,i64 0,bV false,bV false]]⟩
theorem ad6 (p:fU) (hf:p.re.df=true) (hv:cI p≠0):aS prog 7 [bk p] (.tu [.d (.sc (.pointer none)),i64 (cI p)]):=by
 have h1:=E0 p hf;generalize cI p=v at *;cases p with
 |mk re aj aM =>
 simp only[Fl,Re.ah re,ak8,ak9,ak5,ak6,i64,iD,bD,bV]at h1;refine br func7 ntmps7 results7 0 31 ?_;simp only[zI,simprocAttr,-FF,bk,Re.ah,bV,iD,bD];refine dk h1 ?_;simp only[zI,simprocAttr,-FF,bk,Re.ah,bV,iD,bD,hv,ne_eq,not_false_eq_true]
theorem W9 (p:fU) (hf:p.re.df=true) (hv:cI p=0):av prog 7 [bk p] [] λv s=>v=.tu [.rf 0 0 0 0,i64 0]/\s=[IK p]:=by
 have h1:=E0 p hf;rw[hv]at h1;have h2:=RF p.re hf;cases p with
 |mk re aj aM =>
 simp only[Fl,Re.ah re,ak8,ak9,ak5,ak6,i64,iD,bD,bV]at h1;simp only[au re,iD,bD]at h2;refine pE func7 rfl ntmps7 results7 rfl 0 31 aq aq ?_;simp only[zI,simprocAttr,-FF,bk,Re.ah,bV,iD,bD];refine dk h1 ?_;simp only[zI,simprocAttr,-FF,bk,Re.ah,bV,iD,bD,ne_eq,not_true_eq_false];refine dk h2 ?_;simp only[zI,simprocAttr,-FF,bk,Re.ah,bV,iD,bD,tV,xF];exact⟨[1],aF,rfl,rfl⟩
def Sl (Y Z:Nat) (m:aP) (T:V):VL.Obj:=⟨0,true,19,[[.d (iD m.p.re.op),.d (.sl (m.p.re.set.map aU)),.d (.sl (m.p.re.kids.map Re.cells)),.d (iD m.p.re.mn),.d (iD m.p.re.mx),.d (iD m.p.re.mode),.d (iD m.p.re.n),.d (bD m.p.re.neg),i64 m.p.aj,bV m.p.aM,T,
 .so Z m.nU 0 m.own.length,.so Y m.gen 0 m.top,i64 m.cS,i64 m.start,i64 m.steps,i64 m.fuel,bV m.cz,bV m.ready]]⟩
def Us (b a:Nat) (m:aP):VL.Obj:=⟨m.gen,true,3,m.iq.map (Pg b a)⟩
def SJ (m:aP):VL.Obj:=⟨m.nU,true,1,m.own.map λx=>[.d (iD x)]⟩
theorem Hc (X Y Z b a:Nat) (m:aP) (T:V):(m.aQ 0 b a T).map (ba [X,Y,Z])=[Sl Y Z m (aI [X,Y,Z] T),Us b a m,SJ m]:=by
 unfold aP.aQ Sl Us SJ;simp only[ak8,ak9,List.cons.injEq,and_true];refine⟨?_,?_,?_⟩
 ·unfold ba;simp [aI.go,aI,i64,bV]
 ·exact Zcb
 ·exact xS [X,Y,Z] m.nU true 1 m.own iD
def Bd (p:fU):List V:=[.d (iD p.re.op),.d (.sl (p.re.set.map aU)),.d (.sl (p.re.kids.map Re.cells)),.d (iD p.re.mn),.d (iD p.re.mx),.d (iD p.re.mode),.d (iD p.re.n),.d (bD p.re.neg),i64 p.aj,bV p.aM]
def wC:List V:=[i64 0,i64 0,i64 0,i64 0,bV false,bV false]
def J3 (p:fU) (X:Nat):VL.Obj:=⟨0,true,19,[(Bd p++[.fu []])++.fu []::(.so (X+1) 0 0 0::wC)]⟩
def fresh (p:fU):aP:=⟨p,[],false,[],0,[],0,0,0,0,0,0,false,false⟩
theorem Uq {p:fU} (hf:p.re.df=true) (hv:cI p=0)
  (hk:∀b a:Nat,K (.tu [.pp s.length 0 0 0 b a,i64 0]) (s++[Sl (s.length+1) (s.length+2) (fresh p) (.fu []),Us b a (fresh p),SJ (fresh p)])):av prog 7 [bk p] s K:=by
 have h1:av prog 7 [bk p] s λv s1=>v=.tu [.rf s.length 0 0 0,i64 0]/\s1=s++[IK p]:=by
  refine iG (W9 p hf hv) [] rfl aq (λk o h=>by simp at h) (by cases p;simp [bk,aI,aI.go,Re.ah,i64,bV,iD,bD]) (by cases p;simp [bk,ak,ak.go,Re.ah,i64,bV]) rfl ?_;rintro v s' ⟨rfl,rfl⟩ _;refine⟨?_,?_⟩
  ·simp [uO,aI,aI.go,i64]
  ·simp [aT,IK,ba,aI,aI.go,i64,bV,iD,bD]
 refine Mp h1 ?_;rintro v s1 ⟨rfl,rfl⟩ σ w u hI hu;have hX:(s++[IK p])[s.length]?=some (IK p):=aq;cases hu with|@tu _ arr gr n9=>?_
 obtain⟨b,a,Lz⟩:=aD.acr hX rfl (n9 0 _ rfl);obtain⟨σ1,e1,i1⟩:=sH hI s.length 3 hX (pre:=Bd p++[.fu [],.fu []]) (post:=wC) rfl rfl;have dL:(s++[IK p]).set s.length { IK p with aA:=[(Bd p++[.fu [],.fu []])++V.so (s++[IK p]).length 0 0 0::wC] }=s++[J3 p s.length]:=by rw[al0 _ _ (ale _),ame,ald];simp [IK,J3]
 rw[dL]at e1 i1;have hX2:(s++[J3 p s.length]++[(⟨0,true,3,[]⟩:VL.Obj)])[s.length]?=some (J3 p s.length):=aq;obtain⟨σ2,e2,i2⟩:=sH i1 s.length 1 hX2 (pre:=Bd p++[.fu []]) (post:=.so (s.length+1) 0 0 0::wC) rfl rfl;have jG:(s++[J3 p s.length]++[(⟨0,true,3,[]⟩:VL.Obj)]).set s.length { J3 p s.length with aA:=[(Bd p++[.fu []])++V.so (s++[J3 p s.length]++[(⟨0,true,3,[]⟩:VL.Obj)]).length 0 0 0::(.so (s.length+1) 0 0 0::wC)] }++[⟨0,true,1,[]⟩] =
   s++[Sl (s.length+1) (s.length+2) (fresh p) (.fu []),Us b a (fresh p),SJ (fresh p)]:=by
  rw[alx,al0 _ _ (ale _),ame];simp [Sl,Us,SJ,fresh,J3,Bd,wC]
 rw[jG]at e2 i2;refine⟨σ2,_,_,e1.trans e2,i2,?_,hk b a⟩;have agv:=Lz.bj (e1.trans e2);refine .tu gr λi x hx=>?_
 match i with
 |0=>cases hx;exact agv
 |1=>cases hx;exact(n9 1 _ rfl).bj (e1.trans e2)
 |i+2=>simp at hx
theorem Ou {f:FuncId}{cargs args:List V}{r r':V}{m m':aP}{T T' TX TX':V}{X Y Z b a:Nat} (h:av prog f cargs (m.aQ 0 b a T) λv s=>v=r/\s=m'.aQ 0 b a T')
  (hT:ak 3 T=true) (hTX:aI [X,Y,Z] T=TX) (ae4:aI [X,Y,Z] T'=TX') (yl:[X,Y,Z].Nodup) (hX:s[X]?=some (Sl Y Z m TX)) (hY:s[Y]?=some (Us b a m)) (hZ:s[Z]?=some (SJ m)) (ha:args=cargs.map (aI [X,Y,Z])) (xj:ak.go 3 cargs=true) (hr:aI [X,Y,Z] r=r')
  (hk:K r' (((s.set X (Sl Y Z m' TX')).set Y (Us b a m')).set Z (SJ m'))):av prog f args s K:=by
 refine dD [X,Y,Z] h yl eh ?_ ha xj (rn 0 b a m T 3 (ale _) hT) hr ?_
 ·have e:(m.aQ 0 b a T).map (λo=>some (ba [X,Y,Z] o))=((m.aQ 0 b a T).map (ba [X,Y,Z])).map some:=by rw[alH];rfl
  rw[e,Hc,hTX];simp only[ak8,ak9,hX,hY,hZ]
 ·rw[Hc,ae4];exact hk
end Go.Proofs.YtjjfioalgbecmaaGreat
namespace Go.Proofs.YtjjfioalgbecmaaGreat
open Go.VL Go.Proofs.Tryz
theorem Tm {m:aP} (h:m.top<=m.iq.length):m.kept.top<=m.kept.iq.length:=by unfold aP.kept;split <;> exact h
end Go.Proofs.YtjjfioalgbecmaaGreat
namespace Go.Proofs.YtjjfioalgbecmaaGreat
open Go.VL Go.Proofs.Tryz
theorem px:(true == true)=true/\(false == false)=true/\(true == false)=false/\(false == true)=false:=⟨rfl,rfl,rfl,rfl⟩
mutual
theorem zO {ρ:List Nat}{k n:Nat} (h:∀i,i<k->ρ.getD i 0<n):∀v:V,ak k v=true->ak n (aI ρ v)=true
 |.so _ _ _ _,hv=>by simp only[ak,aI,decide_eq_true_eq]at *;exact h _ hv
 |.rf _ _ _ _,hv=>by simp only[ak,aI,decide_eq_true_eq]at *;exact h _ hv
 |.pp _ _ _ _ _ _,hv=>by simp only[ak,aI,decide_eq_true_eq]at *;exact h _ hv
 |.mp _ _,hv=>by simp only[ak,aI,decide_eq_true_eq]at *;exact h _ hv
 |.ag cs,hv=>by simp only[ak,aI]at *;exact rQ h cs hv
 |.tu cs,hv=>by simp only[ak,aI]at *;exact rQ h cs hv
 |.bx v,hv=>by simp only[ak,aI]at *;exact zO h v hv
 |.cap _ _ v,hv=>by simp only[ak,aI]at *;exact zO h v hv
 |.cl _ first aj,hv=>by simp only[ak,aI,alo]at *;exact⟨rQ h first hv.1,rQ h aj hv.2⟩
 |.d _,_=>rfl
 |.fu _,_=>rfl
 |.un,_=>rfl
 |.any,hv=>hv
theorem rQ {ρ:List Nat}{k n:Nat} (h:∀i,i<k->ρ.getD i 0<n):∀l:List V,ak.go k l=true->ak.go n (aI.go ρ l)=true
 |[],_=>rfl
 |v::vs,hv=>by simp only[ak.go,aI.go,alo]at *;exact⟨zO h v hv.1,rQ h vs hv.2⟩
end
theorem afc {X Y Z n:Nat} (hX:X<n) (hY:Y<n) (hZ:Z<n) {T:V} (h:ak 3 T=true):ak n (aI [X,Y,Z] T)=true:=by
 refine zO (k:=3) (λi hi=>?_) T h
 match i,hi with
 |0,_=>exact hX
 |1,_=>exact hY
 |2,_=>exact hZ
theorem adE {Y Z n:Nat}{m:aP}{T:V} (b a:Nat) (hY:Y<n) (hZ:Z<n) (hT:ak n T=true):aY n (Sl Y Z m T)=true/\aY n (Us b a m)=true/\aY n (SJ m)=true:=by
 refine⟨?_,?_,rb m.own iD n⟩
 ·unfold Sl aY;simp only[alR,alW,alp,hT,i64,bV,iD,bD];simp [ak];exact⟨hZ,hY⟩
 ·exact ze m.iq b a n
abbrev zY:=am @i64.eq_1 @bV.eq_1 @iD.eq_1 @bD.eq_1 @mL.v.eq_1 @ar.eq_1 @bI.eq_1<|am @bI.eq_2 @List.length_map.{0,0} @List.set_cons_zero.{0} @List.set_cons_succ.{0} @List.length_cons.{0} @List.length_nil.{0} @List.cons_append.{0}<|am @List.nil_append.{0} @ne_eq.{1} @not_true_eq_false @not_false_eq_true @Bool.not_false @Bool.not_true @gt_iff_lt.{0} @decide_true
structure Rst (p:fU) (m:aP):Prop where
 p:m.p=p
 top:m.top<=m.iq.length
theorem aal (m:aP):ak 3 m.mO=true/\aI [0,1,2] m.mO=m.mO:=by unfold aP.mO;split <;> exact⟨rfl,rfl⟩
end Go.Proofs.YtjjfioalgbecmaaGreat
namespace Go.Proofs.YtjjfioalgbecmaaGreat
open Go.VL Go.Proofs.Tryz
theorem Qz {p:fU} (hv:cI p=0) (t:List Int) (i f:Int):(ko p.aM t i f=0/\e9 p t f=0/\0<=i/\i<=t.length)\/(ko p.aM t i f≠0/\∀ai,iu p t i ai f=ko p.aM t i f):=by
 unfold ko iu e9;rw[ap (show ¬cI p≠0 by rw[hv];simp)];by_cases c1:65536<t.length
 ·rw[be c1,be c1];exact Zdl
 rw[ap c1,ap c1];by_cases c2:t.all (eM p.aM)=false
 ·rw[be c2,be c2];exact Zdl
 rw[ap c2,ap c2];by_cases c3:f<0\/1099511627776<f
 ·rw[be c3,be c3];exact Zdl
 rw[ap c3,ap c3];by_cases c4:i<0\/(t.length:Int)<i
 ·rw[be c4];exact .inr ⟨aF,λai=>by rw[ap aF,be c4]⟩
 ·rw[ap c4];exact .inl ⟨rfl,rfl,ae,ae⟩
theorem Wf {p:fU} (hv:cI p=0) {t:List Int} (ht:t.length<=1000000) (hI:∀x∈t,jD x) (i f:Int) {m:aP} (hm:Rst p m) (T:V) (hT:ak 3 T=true) (Ng:aI [0,1,2] T=T) :
  ∃(m':aP) (T':V),Rst p m'/\ak 3 T'=true/\aI [0,1,2] T'=T'/\m'.ready=(decide (iu p t i 1 f=0)&&!(allM p t i 1 f).isEmpty)/\m.cS<=m'.cS/\m'.cS<=max m.cS (max 0 f)/\(iu p t i 1 f=0->m'.cS<=max m.cS (Ay p t i 1 f)) /\
   ∀b a:Nat,av prog 11 [.pp 0 0 0 0 b a,.d (ar t),i64 i,i64 f] (m.aQ 0 b a T) λv s=>v=K9 (Gx p t i f)/\s=m'.aQ 0 b a T':=by
 rcases Qz hv t i f with ⟨Ar,VO,h0,h1⟩|⟨Ar,hE⟩
 ·obtain⟨v1,v2,v3,v4,v5⟩:=n5 VO;obtain⟨k1,k2,k3,k4,k5⟩:=cW v1;obtain⟨k,m2,r,found,j1,j2,j3,j4,j5,j6⟩:=W2 VO h0 h1 hm.p;have hk:=aal (m2.done found);have hfu:m2.fuel=f:=j2.fr.fuel;have Qu:m2.steps<=f:=by have:=j2.bM (by show (0:Int)<=f;omega);rw[hfu]at this;exact this
  have hd:(m2.done found).kept.cS=m2.cS:=by unfold aP.kept;split <;> rfl
  have uZ:m.cS<=m2.cS:=j2.YI;have qg:m2.cS<=max m.cS m2.steps:=j2.XX;refine⟨(m2.done found).kept,(m2.done found).mO,⟨?_,Tm (m:=m2.done found) j3⟩,hk.1,hk.2,?_,by rw[hd];exact uZ,by rw[hd];omega,λhE=>?_,λb a=>?_⟩
  ·have h1:m2.p=p:=by rw[j2.fr.p];exact hm.p
   unfold aP.kept;split <;> exact h1
  ·rw[<- j6];unfold aP.kept;split <;> rfl
  ·rw[hd];have bL:m2.steps=Ay p t i 1 f:=by
    unfold aP.res Gx at j5;rw[ap (show ¬iu p t i 1 f≠0 from by rw[hE];simp)]at j5;cases hM:allM p t i 1 f with
    |nil =>
     rw[hM]at j5;simp only at j5;split at j5
     ·simp [i64]at j5
     ·split at j5
      ·simp [bV]at j5
      ·simp [i64]at j5;omega
    |cons e l =>
     rw[hM]at j5;obtain⟨e1,e2⟩:=e;simp only at j5;split at j5
     ·simp [i64]at j5
     ·split at j5
      ·simp [i64]at j5;omega
      ·simp [bV]at j5
   rw[bL]at qg;exact qg
  ·have Ar:ko m.p.aM t i f=0:=by rw[hm.p];exact Ar
   have:=Xi 0 b a m T hT Ng hm.top t i f ht hI Ar p.aj.toNat (by rw[hm.p];omega) ae j1 j4;rw[j5]at this;exact this
 ·refine⟨m.rest,T,⟨hm.p,Nat.zero_le _⟩,hT,Ng,?_,alj _,by show m.cS<=_;omega,λh=>?_,λb a=>?_⟩
  ·rw[hE 1,ce Ar];rfl
  ·rw[hE 1]at h;exact absurd h Ar
  ·have agG:ko m.p.aM t i f≠0:=by rw[hm.p];exact Ar
   have:=VC 0 b a m T hT Ng hm.top t i f ae hI agG;have RX:Gx p t i f=[i64 0,i64 0,.d (.sl []),bV false,i64 0,i64 (ko m.p.aM t i f)]:=by unfold Gx;rw[hE 1,be Ar,hm.p]
   rw[RX];exact this
def pQ (p:fU):VL.Obj:=⟨0,true,10,[[.d (.sc (.int .i64 p.re.op)),.d (.sl (p.re.set.map aU)),.d (.sl (p.re.kids.map Re.cells)),.d (.sc (.int .i64 p.re.mn)),.d (.sc (.int .i64 p.re.mx)),.d (.sc (.int .i64 p.re.mode)),.d (.sc (.int .i64 p.re.n)),.d (.sc (.bool p.re.neg)),.d (.sc (.int .i64 p.aj)),.d (.sc (.bool p.aM))]]⟩
def oaI (p:fU) (t:List Int) (b a:Nat):Nat->Env->List VL.Obj->Prop:=λn e s=>∃(i:Nat) (m:aP) (T:V),n=t.length+1-i/\i<=t.length+1/\Rst p m/\ak 3 T=true/\aI [0,1,2] T=T /\
 e 5=.rf 0 0 0 0/\e 6=.d (ar t)/\e 7=.pp 1 0 0 0 b a/\e 9=i64 i /\
 s=[pQ p,Sl 2 3 m (aI [1,2,3] T),Us b a m,SJ m]
theorem Av (l:List Int) (hl:∀x∈l,jD x) (m:List Int) (hm:∀x∈m,jD x) :
  aS Tryz.prog 3 [.d (ar l),.d (ar m)] (bV true):=by
 obtain⟨p,t,BS,hS⟩:=Rk l m hl hm;have Sb:=uR p hS.df;have VU:=QO;have VW:=hS.len;have hvr:=hS.valid;have Hk:=hS.df;have Ym:=hS.sym;rw[<- hS.aM]at Ym;have agH:∀x∈t,jD x:=λx hx=>by have h:=List.all_eq_true.1 hS.sym x hx;unfold eM at h;simp only[alo,decide_eq_true_eq,e8]at h;exact⟨ae,by have:=h.2;simp at this;omega⟩
 have dU:=λx=>Qm p t x Hk ae;have uv:=λs K hk=>Uq Hk hvr (s:=s) (K:=K) hk;have aay:=λ(ha:CD p=0) (i:Nat) (hi:i<=t.length)=>UC (p:=p) (t:=t) ae Ym ha (i:=i) ae ae (F:=1048576) ae ae;simp only[bk,Re.ah p.re,ak8,ak9,ak5,ak6,i64,iD,bD,bV]at BS Sb uv VU dU;by_cases ha:CD p=0
 case neg =>
  refine br Tryz.func3 Tryz.ntmps3 Tryz.results3 0 98291 ?_;simp only[zX,simprocAttr,zY,px];refine dk BS ?_;simp only[zX,simprocAttr,zY,px];refine uv _ _ (λb a=>?_);simp only[zX,simprocAttr,zY,px];refine⟨rfl,⟨_,rfl⟩,dk Sb ?_⟩;simp only[zX,simprocAttr,zY,px,ne_eq,ha,not_false_eq_true];exact ZcR
 have aay:=aay ha;rw[ha]at Sb;refine br Tryz.func3 Tryz.ntmps3 Tryz.results3 0 98291 ?_;simp only[zX,simprocAttr,zY,px];refine dk BS ?_;simp only[zX,simprocAttr,zY,px];refine uv _ _ (λb a=>?_);simp only[zX,simprocAttr,zY,px];refine⟨rfl,⟨_,rfl⟩,dk Sb ?_⟩;simp only[zX,simprocAttr,zY,px,ne_eq,not_true_eq_false];refine ay (oaI p t b a) ⟨_,_,_,bO.refl,0,fresh p,.fu [],rfl,ae,⟨rfl,ale _⟩,rfl,rfl,rfl,rfl,rfl,rfl,rfl⟩ ?_;clear BS Sb uv;rintro n e s ⟨i,m,T,rfl,hi,afZ,hT,Ng,h5,h6,h7,h9,rfl⟩;simp only[i64]at h9;by_cases hle:i<=t.length
 case neg =>
  have AG:¬((i:Int)<=t.length):=ae;simp only[zX,simprocAttr,zY,px,h5,h6,h7,h9,AG];exact ZcR
 have AG:(i:Int)<=t.length:=ae;have hr:=dU (i:Int);obtain⟨hE,mV⟩:=aay i hle;rw[hE]at hr;obtain⟨m',T',ac5,hT',Y9,_,_,_,_,xG⟩:=Wf hvr (t:=t) ae agH (i:Int) 1048576 afZ T hT Ng;have qf:=λx hx=>NU (p:=p) (t:=t) (i:=(i:Int)) (n:=1) (f:=1048576) x hx;have wi:IntKind.i64.wrap ((i:Int)+1)=((i+1:Nat):Int):=by rw[bK _ ae];omega
 rcases mV with hF|⟨U8,hX⟩
 ·rw[KT hF]at xG;generalize (Bn p t (i:Int)).isSome=bb at hr;generalize PR (Bn p t (i:Int))=mm at hr;have UY:K9 [i64 0,i64 0,.d (.sl []),bV false,i64 0,i64 11]=.tu [.ag [i64 0,i64 0,.d (.sl [])],bV false,i64 0,i64 11]:=rfl;rw[UY]at xG;simp only[mL.v,i64,bV,iD,bD]at hr;simp only[zX,simprocAttr,zY,px,pQ,h5,h6,h7,h9,AG];refine dk hr ?_;simp only[zX,simprocAttr,zY,px,pQ,h5,h6,h7,h9,AG];refine Ou (X:=1) (Y:=2) (Z:=3) (r':=.tu [.ag [i64 0,i64 0,.d (.sl [])],bV false,i64 0,i64 11]) (xG b a) hT rfl rfl aF rfl rfl rfl rfl rfl rfl ?_;simp only[zX,simprocAttr,zY,px,pQ,h5,h6,h7,h9,AG];exact ZcR
 have RX:=Rz U8;rw[RX]at xG;rw[hX]at hr;clear hX RX U8;generalize Ay p t (i:Int) 1 1048576=N at *;generalize allM p t (i:Int) 1 1048576=M at *;have uF:∀(e1:Env) (X Y:List V),
   e1 5=.rf 0 0 0 0->e1 6=.d (ar t)->e1 7=.pp 1 0 0 0 b a->e1 9=.d (.sc (.int .i64 ((i+1:Nat):Int))) ->
   Yl 0 (oaI p t b a) (t.length+1-i) e1 [pQ p,Sl 2 3 m' (aI [1,2,3] T'),Us b a m',SJ m',⟨0,true,3,[X]⟩,⟨0,true,3,[Y]⟩]:=by
  intro e1 X Y g5 g6 g7 g9;refine⟨t.length+1-(i+1),_,_,ae,bO.cut 4 ae rfl ?_ [5,6,7,9] ?_,i+1,m',T',rfl,ae,ac5,hT',Y9,?_,?_,?_,?_,rfl⟩
  ·have:=adE (m:=m') b a (Y:=2) (Z:=3) (n:=4) ae ae (afc (X:=1) (Y:=2) (Z:=3) (n:=4) ae ae ae hT');show (aY 4 (pQ p)&&(aY 4 (Sl 2 3 m' (aI [1,2,3] T'))&&(aY 4 (Us b a m')&&(aY 4 (SJ m')&&_))))=true;rw[this.1,this.2.1,this.2.2];simp [aY,pQ,ak]
  ·simp [g5,g6,g7,g9,ak,ar]
  all_goals simp only[ot,List.contains_cons,List.contains_nil,Ft,amo,alB,Bool.or_true,alE,if_true,i64,bV,g5,g6,g7,g9,reduceIte]
 have hb0:(!(false == false))=false:=aF;have gY:(!(true == true))=false:=aF;cases M with
 |nil =>
  have heq:=K5 ⟨0,0,[]⟩ ⟨0,0,[]⟩ aq;simp only[decide_true,mL.v,bS,ak9,i64,bV]at heq;have UY:K9 [i64 0,i64 0,.d (.sl []),bV false,i64 N,i64 0]=.tu [.ag [i64 0,i64 0,.d (.sl [])],bV false,i64 N,i64 0]:=rfl;simp only at xG;rw[UY]at xG;simp only[List.head?_nil,PR,Option.map_none,Option.getD_none,Option.isSome_none,mL.v,bS,ak9,i64,bV,iD,bD]at hr;simp only[zX,simprocAttr,zY,px,pQ,h5,h6,h7,h9,AG];refine dk hr ?_;simp only[zX,simprocAttr,zY,px,pQ,h5,h6,h7,h9,AG];refine Ou (X:=1) (Y:=2) (Z:=3) (r':=.tu [.ag [i64 0,i64 0,.d (.sl [])],bV false,i64 N,i64 0]) (xG b a) hT rfl rfl aF rfl rfl rfl rfl rfl rfl ?_;exact Zbj
 |cons y tl =>
  obtain⟨ye,yd⟩:=y;have heq:=K5 ⟨i,ye,yd⟩ ⟨i,ye,yd⟩ (qf (ye,yd) aq);simp only[decide_true,mL.v,i64,bV]at heq;have UY:K9 [i64 i,i64 ye,.d (bS yd),bV true,i64 N,i64 0]=.tu [.ag [i64 i,i64 ye,.d (bS yd)],bV true,i64 N,i64 0]:=rfl;simp only at xG;rw[UY]at xG;simp only[List.head?_cons,PR,ala,amk,Option.isSome_some,mL.v,i64,bV,iD,bD]at hr;simp only[zX,simprocAttr,zY,px,pQ,h5,h6,h7,h9,AG];refine dk hr ?_;simp only[zX,simprocAttr,zY,px,pQ,h5,h6,h7,h9,AG];refine Ou (X:=1) (Y:=2) (Z:=3) (r':=.tu [.ag [i64 i,i64 ye,.d (bS yd)],bV true,i64 N,i64 0]) (xG b a) hT rfl rfl aF rfl rfl rfl rfl rfl rfl ?_;exact Zbj
end Go.Proofs.YtjjfioalgbecmaaGreat
