/- A part of the proof (G31 G42 G43 G44 G45 G46 G47 G48). -/
import Derived.Test.YtmihcpdhcillaaaGreatBG15
import Derived.Test.YtmihcpdhcillaaaGreatBG22
set_option linter.unusedSimpArgs false
set_option linter.unusedVariables false
set_option maxRecDepth 100000
set_option maxHeartbeats 80000000
namespace Go.Proofs.YtmihcpdhcillaaaGreat
open Go.VL Go.Proofs.Tryz
structure aC.Fr (m m':aC):Prop where
 p:m'.p=m.p
 t:m'.t=m.t
 bB:m'.bB=m.bB
 own:m'.own=m.own
 eP:m'.eP=m.eP
 start:m'.start=m.start
 fuel:m'.fuel=m.fuel
 ready:m'.ready=m.ready
theorem aC.Fr.refl (m:aC):m.Fr m:=⟨rfl,rfl,rfl,rfl,rfl,rfl,rfl,rfl⟩
theorem aC.Fr.trans {m m1 m2:aC} (h:m.Fr m1) (k:m1.Fr m2):m.Fr m2 :=
 ⟨k.p.trans h.p,k.t.trans h.t,k.bB.trans h.bB,k.own.trans h.own,k.eP.trans h.eP,k.start.trans h.start,k.fuel.trans h.fuel,k.ready.trans h.ready⟩
theorem aC.dI (m:aC):m.Fr m.step:=by
 unfold aC.step;split <;> exact⟨rfl,rfl,rfl,rfl,rfl,rfl,rfl,rfl⟩
theorem aC.wq (m:aC) (p:aA):m.Fr (m.push p):=⟨rfl,rfl,rfl,rfl,rfl,rfl,rfl,rfl⟩
theorem aC.tH (m:aC) (n:Nat):m.Fr (m.clear n):=⟨rfl,rfl,rfl,rfl,rfl,rfl,rfl,rfl⟩
theorem aC.E6 (m:aC):m.Fr m.pop:=⟨rfl,rfl,rfl,rfl,rfl,rfl,rfl,rfl⟩
theorem nK {rec:Rec} (h:∀m base p x,rec m base p=some x→m.Fr x.1) {m:aC}{p:aA}{x:Rs} (hx:eS rec m p=some x):m.Fr x.1:=by
 unfold eS at hx
 split at hx
 ·cases hx
 ·rename_i m1 p1 f h1
  split at hx
  ·cases hx
  ·cases hx
   exact(h _ _ _ _ h1).trans (aC.tH _ _)
theorem D7 {rec:Rec} (h:∀m base p x,rec m base p=some x→m.Fr x.1) {m:aC}{p:aA}{part:aG}{x:Rs} (hx:iW rec m p part=some x):m.Fr x.1:=by
 unfold iW at hx
 split at hx
 ·cases hx
 ·rename_i m1 p1 f h1
  cases hx
  have:=nK h h1
  exact this
theorem GD {f:Int→aC→Option Rs} (h:∀k m x,f k m=some x→m.Fr x.1) {neg:Bool}{p:aA}{last:Int}:∀(j:Nat) (m:aC) (x:Rs),fT f neg p last j m=some x→m.Fr x.1
 |0,m,x,hx=>by simp only[fT]at hx;cases hx;exact .refl _
 |j+1,m,x,hx=>by
  simp only[fT]at hx
  split at hx
  ·cases hx;exact .refl _
  ·split at hx
   ·cases hx
   ·rename_i m1 r found h1
    split at hx
    ·split at hx
     ·cases hx;have:=h _ _ _ h1;exact this
     ·cases hx;have:=h _ _ _ h1;exact this
    ·exact(h _ _ _ h1).trans (GD h j m1 x hx)
theorem IT {rec:Rec} (h:∀m base p x,rec m base p=some x→m.Fr x.1) {m:aC}{r:aE}{p:aA}{x:Rs} (hx:bq rec m r p=some x):m.Fr x.1:=by
 have hs:=aC.dI m
 unfold bq at hx
 split at hx
 ·cases hx
 rename_i re Nj
 simp only at hx
 by_cases c0:1000000000<re.set.length∨1000000000<re.kids.length
 ·rw[if_pos c0]at hx;cases hx
 rw[if_neg c0]at hx
 by_cases c4:re.op=4
 ·rw[if_pos c4]at hx
  split at hx
  ·exact D7 h hx
  ·cases hx;exact .refl _
 rw[if_neg c4]at hx
 by_cases cf:m.fuel≤m.steps
 ·rw[if_pos cf]at hx;cases hx;exact hs
 rw[if_neg cf]at hx
 by_cases c1:re.op=1
 ·rw[if_pos c1]at hx;cases hx;exact hs
 rw[if_neg c1]at hx
 by_cases c2:re.op=2
 ·rw[if_pos c2]at hx;cases hx;exact hs
 rw[if_neg c2]at hx
 by_cases c3:re.op=3
 ·rw[if_pos c3]at hx;cases hx;exact hs
 rw[if_neg c3]at hx
 by_cases c5:re.op=5
 ·rw[if_pos c5]at hx
  split at hx
  ·cases hx
  ·cases hx;exact hs
 rw[if_neg c5]at hx
 by_cases c6:re.op=6
 ·rw[if_pos c6]at hx
  split at hx
  ·cases hx
  ·cases hx;exact hs
 rw[if_neg c6]at hx
 by_cases c7:re.op=7∨re.op=8
 ·rw[if_pos c7]at hx
  split at hx
  ·cases hx
  ·unfold kb at hx
   exact hs.trans (GD (fun _ _ _ h1=>nK h h1) _ _ _ hx)
 rw[if_neg c7]at hx
 by_cases c9:re.op=9
 ·rw[if_pos c9]at hx
  split at hx
  ·cases hx
  ·exact hs.trans (D7 h hx)
 rw[if_neg c9]at hx
 by_cases Uv:re.op=10
 ·rw[if_pos Uv]at hx
  split at hx
  ·split at hx
   ·cases hx
   ·cases hx;exact hs
  ·cases hx
 rw[if_neg Uv]at hx
 split at hx
 ·split at hx
  ·cases hx
  ·cases hx;exact hs
 ·cases hx;exact hs
theorem J7 {m:aC}{r:aE}{n:Int}{p:aA}{x:Rs} (hx:jm m r n p=some x):m.Fr x.1:=by
 have hs:=aC.dI m
 unfold jm at hx
 simp only at hx
 repeat' (first
  |(cases hx;done)
  |(cases hx;exact hs)
  |(cases hx;exact hs.trans (aC.wq _ _))
  |split at hx)
theorem Ou {rec:Rec} (h:∀m base p x,rec m base p=some x→m.Fr x.1) {m:aC}{p:aA}{x:Rs} (hx:gn rec m p=some x):m.Fr x.1:=by
 unfold gn at hx
 split at hx
 ·cases hx
 split at hx
 ·cases hx
 simp only at hx
 repeat' (first
  |(cases hx;done)
  |(cases hx;exact .refl _)
  |exact IT h hx
  |exact J7 hx
  |(cases hx;split;exact aC.wq _ _;exact .refl _)
  |split at hx)
theorem mr:∀(k:Nat) (out:Bool) (m:aC) (base:Nat) (p:aA) (alive:Bool) (x:Rs),bh k out m base p alive=some x→m.Fr x.1
 |0,_,_,_,_,_,_,hx=>by cases hx
 |k+1,out,m,base,p,alive,x,hx=>by
  simp only[bh]at hx
  split at hx
  ·cases hx;exact .refl _
  split at hx
  ·split at hx
   ·cases hx
   ·rename_i m1 p1 a1 h1
    exact(Ou (fun m base p x h=>mr k true m base p true x h) h1).trans (mr k false m1 base p1 a1 x hx)
  split at hx
  ·cases hx;exact .refl _
  split at hx
  ·cases hx;exact .refl _
  split at hx
  ·cases hx
  split at hx
  ·cases hx
  ·cases hx
  ·rename_i last _
   exact m.E6.trans (mr k true m.pop base last true x hx)
section mono
variable {rec rec':Rec} (h:∀m base p x,rec m base p=some x→rec' m base p=some x)
include h
theorem mz {m:aC}{p:aA}{x:Rs} (hx:eS rec m p=some x):eS rec' m p=some x:=by
 unfold eS at hx ⊢
 cases hr:rec m m.top p with
 |none=>rw[hr]at hx;cases hx
 |some y=>rw[hr]at hx;rw[h _ _ _ _ hr];exact hx
theorem vE {m:aC}{p:aA}{part:aG}{x:Rs} (hx:iW rec m p part=some x):iW rec' m p part=some x:=by
 unfold iW at hx ⊢
 cases hr:eS rec m { p with todo:=part } with
 |none=>rw[hr]at hx;cases hx
 |some y=>rw[hr]at hx;rw[mz h hr];exact hx
omit h in
theorem rR {f f':Int→aC→Option Rs} (hf:∀k m x,f k m=some x→f' k m=some x) {neg:Bool}{p:aA}{last:Int}:∀(j:Nat) (m:aC) (x:Rs),fT f neg p last j m=some x→fT f' neg p last j m=some x
 |0,_,_,hx=>hx
 |j+1,m,x,hx=>by
  simp only[fT]at hx ⊢
  by_cases hs:m.aK=true
  ·rw[if_pos hs]at hx ⊢;exact hx
  ·rw[if_neg hs]at hx ⊢
   cases hr:f (last+j) m with
   |none=>rw[hr]at hx;cases hx
   |some y =>
    rw[hr]at hx
    rw[hf _ _ _ hr]
    obtain⟨m1,r,found⟩:=y
    simp only at hx ⊢
    cases found with
    |true=>exact hx
    |false =>
     simp only[W2,if_false]at hx ⊢
     exact rR hf j m1 x hx
theorem Di {m:aC}{r:aE}{p:aA}{x:Rs} (hx:bq rec m r p=some x):bq rec' m r p=some x:=by
 unfold bq at hx ⊢
 cases hl:m.lit r with
 |none=>rw[hl]at hx;cases hx
 |some re =>
  rw[hl]at hx
  simp only at hx ⊢
  by_cases c0:1000000000<re.set.length∨1000000000<re.kids.length
  ·rw[if_pos c0]at hx;cases hx
  rw[if_neg c0]at hx ⊢
  by_cases c4:re.op=4
  ·rw[if_pos c4]at hx ⊢
   by_cases cm:re.mode=2
   ·rw[if_pos cm]at hx ⊢;exact vE h hx
   ·rw[if_neg cm]at hx ⊢;exact hx
  rw[if_neg c4]at hx ⊢
  by_cases cf:m.fuel≤m.steps
  ·rw[if_pos cf]at hx ⊢;exact hx
  rw[if_neg cf]at hx ⊢
  by_cases c1:re.op=1
  ·rw[if_pos c1]at hx ⊢;exact hx
  rw[if_neg c1]at hx ⊢
  by_cases c2:re.op=2
  ·rw[if_pos c2]at hx ⊢;exact hx
  rw[if_neg c2]at hx ⊢
  by_cases c3:re.op=3
  ·rw[if_pos c3]at hx ⊢;exact hx
  rw[if_neg c3]at hx ⊢
  by_cases c5:re.op=5
  ·rw[if_pos c5]at hx ⊢;exact hx
  rw[if_neg c5]at hx ⊢
  by_cases c6:re.op=6
  ·rw[if_pos c6]at hx ⊢;exact hx
  rw[if_neg c6]at hx ⊢
  by_cases c7:re.op=7∨re.op=8
  ·rw[if_pos c7]at hx ⊢
   cases hk:re.kids with
   |nil=>rw[hk]at hx;cases hx
   |cons kid l =>
    rw[hk]at hx
    simp only at hx ⊢
    unfold kb at hx ⊢
    exact rR (fun k m x hx=>mz h hx) _ _ _ hx
  rw[if_neg c7]at hx ⊢
  by_cases c9:re.op=9
  ·rw[if_pos c9]at hx ⊢
   cases hk:re.kids with
   |nil=>rw[hk]at hx;cases hx
   |cons kid l =>
    rw[hk]at hx
    exact vE h hx
  rw[if_neg c9]at hx ⊢
  exact hx
theorem zL {m:aC}{p:aA}{x:Rs} (hx:gn rec m p=some x):gn rec' m p=some x:=by
 unfold gn at hx ⊢
 by_cases c:m.cn p
 ·rw[if_neg (by simpa using c)]at hx ⊢
  obtain⟨pa,pc,todo⟩:=p
  cases todo with
  |nil=>cases hx
  |mk kind r n at_ next =>
   simp only at hx ⊢
   by_cases k0:kind=0
   ·rw[if_pos k0]at hx ⊢;exact Di h hx
   ·rw[if_neg k0]at hx ⊢;exact hx
 ·rw[if_pos (by simpa using c)]at hx;cases hx
end mono
theorem n5:∀(k:Nat) (out:Bool) (m:aC) (base:Nat) (p:aA) (alive:Bool) (x:Rs),bh k out m base p alive=some x→bh (k+1) out m base p alive=some x
 |0,_,_,_,_,_,_,hx=>by cases hx
 |k+1,out,m,base,p,alive,x,hx=>by
  rw[bh.eq_2]at hx ⊢
  by_cases c1:out=true∧m.aK=true
  ·rw[if_pos c1]at hx ⊢;exact hx
  rw[if_neg c1]at hx ⊢
  by_cases c2:alive=true∧p.goals=true
  ·rw[if_pos c2]at hx ⊢
   cases hr:gn (fun m base p=>bh k true m base p true) m p with
   |none=>rw[hr]at hx;cases hx
   |some y =>
    rw[hr]at hx
    rw[zL (rec':=fun m base p=>bh (k+1) true m base p true) (fun m base p x hx=>n5 k true m base p true x hx) hr]
    obtain⟨m1,p1,a1⟩:=y
    exact n5 k false m1 base p1 a1 x hx
  rw[if_neg c2]at hx ⊢
  by_cases c3:alive=true
  ·rw[if_pos c3]at hx ⊢;exact hx
  rw[if_neg c3]at hx ⊢
  by_cases c4:m.top=base
  ·rw[if_pos c4]at hx ⊢;exact hx
  rw[if_neg c4]at hx ⊢
  by_cases c5:m.top=0∨m.cO.length<m.top∨1200000000000<m.top
  ·rw[if_pos c5]at hx;cases hx
  rw[if_neg c5]at hx ⊢
  cases hl:m.cO[m.top-1]? with
  |none=>rw[hl]at hx;cases hx
  |some o =>
   rw[hl]at hx
   cases o with
   |none=>cases hx
   |some last=>exact n5 k true m.pop base last true x hx
theorem oE {k k':Nat} (hk:k≤k') {out:Bool}{m:aC}{base:Nat}{p:aA}{alive:Bool}{x:Rs} (hx:bh k out m base p alive=some x):bh k' out m base p alive=some x:=by
 induction hk with
 |refl=>exact hx
 |step _ ih=>exact n5 _ _ _ _ _ _ _ ih
def Ev (m:aC) (base:Nat) (p:aA) (alive:Bool) (x:Rs):Prop:=∃k,bh k false m base p alive=some x
def Mp (m:aC) (p:aA) (x:Rs):Prop:=∃k,gn (fun m base p=>bh k true m base p true) m p=some x
theorem Pd {m:aC}{base:Nat}{p:aA}{y:Rs}{x:Rs} (hg:p.goals=true) (ha:Mp m p y) (he:Ev y.1 base y.2.1 y.2.2 x):Ev m base p true x:=by
 obtain⟨k1,h1⟩:=ha
 obtain⟨k2,h2⟩:=he
 refine⟨max k1 k2+1,?_⟩
 simp only[bh]
 rw[if_neg (fun h=>by cases h.1),if_pos ⟨trivial,hg⟩,zL (rec':=fun m base p=>bh (max k1 k2) true m base p true) (fun m base p x hx=>oE (X6 _ _) hx) h1]
 exact oE (X2 _ _) h2
theorem Cx {m:aC}{base:Nat}{p:aA} (hg:p.goals=false):Ev m base p true (m,p,!m.aK):=by
 refine⟨1,?_⟩
 simp only[bh]
 rw[if_neg (fun h=>by cases h.1),if_neg (fun h=>by rw[hg]at h;cases h.2),if_pos trivial]
theorem wC {m:aC}{base:Nat}{p:aA} (hb:m.top=base):Ev m base p false (m,.zero,false):=by
 refine⟨1,?_⟩
 simp only[bh]
 rw[if_neg (fun h=>by cases h.1),if_neg (fun h=>by cases h.1),if_neg (fun h=>by cases h),if_pos hb]
def va (m:aC) (S:List aA):Prop:=m.cO.take m.top=S.map some∧m.top=S.length∧m.top≤1200000000000
theorem va.len {m:aC}{S:List aA} (h:va m S):m.top≤m.cO.length:=by
 have:=congrArg List.length h.1
 rw[Xu,W1,← h.2.1]at this
 omega
theorem va.last {m:aC}{S:List aA}{q:aA} (h:va m (S++[q])):m.cO[m.top-1]?=some (some q)∧va m.pop S:=by
 have hl:=h.len
 have ht:m.top=S.length+1:=by rw[h.2.1];simp
 have hg:(m.cO.take m.top)[m.top-1]?=some (some q):=by
  rw[h.1,ht];simp
 refine⟨by rw[Xr]at hg;rwa [if_pos (by omega)]at hg,?_,?_,?_⟩
 ·show (m.cO.set (m.top-1) none).take (m.top-1)=S.map some
  rw[List.take_set_of_le (W4 _)]
  have:m.cO.take (m.top-1)=(m.cO.take m.top).take (m.top-1):=by rw[List.take_take];congr 1;omega
  rw[this,h.1,ht];simp
 ·show m.top-1=S.length;omega
 ·show m.top-1≤1200000000000;have:=h.2.2;omega
theorem va.push {m:aC}{S:List aA} (h:va m S) (q:aA) (hl:S.length+1≤1200000000000):va (m.push q) (S++[q]):=by
 refine⟨?_,?_,?_⟩
 ·show (m.cO.take m.top++[some q]).take (m.top+1)=_
  rw[h.1,Xv (by rw[W5,W1,h.2.1];simp)]
  simp
 ·show m.top+1=_;rw[h.2.1];simp
 ·show m.top+1≤_;rw[h.2.1];exact hl
theorem va.clear {m:aC}{S S':List aA} (h:va m (S++S')):va (m.clear S.length) S:=by
 have hl:=h.len
 have ht:=h.2.1
 rw[W5]at ht
 refine⟨?_,rfl,?_⟩
 ·show (m.cO.take S.length++(List.replicate (m.top-S.length) none++m.cO.drop m.top)).take S.length=_
  rw[List.take_append_of_le_length (by rw[Xu];omega),List.take_take,Nat.min_self]
  have:m.cO.take S.length=(m.cO.take m.top).take S.length:=by rw[List.take_take];congr 1;omega
  rw[this,h.1];simp
 ·show S.length≤_;have:=h.2.2;omega
theorem Oi {m:aC}{base:Nat}{p q:aA}{S:List aA}{x:Rs} (hS:va m (S++[q])) (hb:base≤S.length) (hs:m.aK=false) (he:Ev m.pop base q true x):Ev m base p false x:=by
 obtain⟨k,hk⟩:=he
 have hl:=hS.len
 have ht:m.top=S.length+1:=by rw[hS.2.1];simp
 refine⟨k+1,?_⟩
 simp only[bh]
 rw[if_neg (fun h=>by cases h.1),if_neg (fun h=>by cases h.1),if_neg (fun h=>by cases h),if_neg (by omega),if_neg (by have:=hS.2.2;omega),hS.last.1]
 simp only
 have:bh k true m.pop base q true=bh k false m.pop base q true:=by
  cases k with
  |zero=>rfl
  |succ k =>
   rw[bh.eq_2,bh.eq_2]
   rw[if_neg (show ¬(true=true∧m.pop.aK=true) from fun h=>by have h2:=h.2;rw[show m.pop.aK=false from hs]at h2;cases h2),if_neg (show ¬(false=true∧m.pop.aK=true) from fun h=>by cases h.1)]
 rw[this];exact hk
inductive pJ (base:Nat):aC→aA→Bool→List (Int×ar)→aC→aA→Bool→Prop where
 |refl (m:aC) (p:aA) (al:Bool):pJ base m p al [] m p al
 |vQ {m:aC}{p:aA}{m1:aC}{p1:aA}{Ch:Bool}{R:List (Int×ar)}{m':aC}{p':aA}{mQ:Bool} (hg:p.goals=true) (ha:Mp m p (m1,p1,Ch)) (h:pJ base m1 p1 Ch R m' p' mQ):pJ base m p true R m' p' mQ
 |pop {m:aC}{p q:aA}{S:List aA}{R:List (Int×ar)}{m':aC}{p':aA}{mQ:Bool} (hS:va m (S++[q])) (hb:base≤S.length) (hs:m.aK=false) (h:pJ base m.pop q true R m' p' mQ):pJ base m p false R m' p' mQ
 |emit {m:aC}{i:Int}{c:ar}{R:List (Int×ar)}{m':aC}{p':aA}{mQ:Bool} (hs:m.aK=false) (h:pJ base m .zero false R m' p' mQ):pJ base m ⟨i,c,.nil⟩ true ((i,c)::R) m' p' mQ
theorem pJ.trans {base:Nat}{m m1 m2:aC}{p p1 p2:aA}{a a1 a2:Bool}{R R':List (Int×ar)} (h:pJ base m p a R m1 p1 a1) (k:pJ base m1 p1 a1 R' m2 p2 a2):pJ base m p a (R++R') m2 p2 a2:=by
 induction h with
 |refl=>exact k
 |vQ hg ha _ ih=>exact .vQ hg ha (ih k)
 |pop hS hb hs _ ih=>exact .pop hS hb hs (ih k)
 |emit hs _ ih=>exact .emit hs (ih k)
theorem qB {base:Nat}{m m':aC}{p p':aA}{a a':Bool}{R:List (Int×ar)} (h:pJ base m p a R m' p' a') (hR:R=[]) {x:Rs} (he:Ev m' base p' a' x):Ev m base p a x:=by
 induction h with
 |refl=>exact he
 |vQ hg ha _ ih=>exact Pd hg ha (ih hR he)
 |pop hS hb hs _ ih=>exact Oi hS hb hs (ih hR he)
 |emit=>cases hR
def vU (P:Re):aE→Option Re
 |.nil=>none
 |.root=>some P
 |.el re=>some re
def RT (re pC:Re):Prop:=(pC=re∧re.mode≠2)∨(re.mode=2∧pC=re.cq 0)
inductive GR (P:Re):aG→Goal→Prop where
 |nil:GR P .nil .nil
 |tree {r:aE}{re:Re}{n a k f:Int}{g:aG}{h:Goal} (hr:vU P r=some re) (hg:GR P g h):GR P (.mk 0 r n a g) (.mk 0 re k f h)
 |round {r:aE}{re pC:Re}{n a f:Int}{g:aG}{h:Goal} (hr:vU P r=some re) (ht:RT re pC) (hg:GR P g h):GR P (.mk 2 r n a g) (.mk 1 pC n f h)
 |more {r:aE}{re pC:Re}{n a f:Int}{g:aG}{h:Goal} (hr:vU P r=some re) (ht:RT re pC) (hn:n<pC.mn) (hg:GR P g h):GR P (.mk 2 r (n+1) a g) (.mk 2 pC n f h)
 |dv {r:aE}{re pC:Re}{n a:Int}{g:aG}{h:Goal} (hr:vU P r=some re) (ht:RT re pC) (hn:pC.mn≤n) (hg:GR P g h):GR P (.mk 3 r (n+1) a g) (.mk 2 pC n a h)
 |cap {r:aE}{re:Re}{a k:Int}{g:aG}{h:Goal} (hr:vU P r=some re) (hg:GR P g h):GR P (.mk 4 r 0 a g) (.mk 3 re k a h)
 |JD {r:aE}{re:Re}{a k:Int}{g:aG}{h:Goal} (hg:GR P g h):GR P (.mk 5 r 0 a g) (.mk 4 re k a h)
def vB (nc:Int) (re:Re):Bool:=decide ((re.op=3∨re.op=4∨re.op=5∨re.op=7∨re.op=8∨re.op=9→re.kids≠[])∧(re.op=10→2≤re.kids.length)∧re.set.length≤1000000000∧re.kids.length≤1000000000 ∧
 (re.op=5∨re.op=6∨re.op=10→1≤re.n∧re.n≤nc)∧(re.op=11→0≤re.n∧re.n≤5)∧(re.op=4→-1≤re.mx))
def GK (nc i s:Int):Goal→Prop
 |.nil=>True
 |.mk kind re k cT next=>(kind≠4→re.every (vB nc)=true)∧(kind=1∨kind=2→re.op=4∧re.mode≠2∧0≤k)∧(kind=1→k≤s)∧(kind=2→k<s)∧(kind=3→re.op=5∧0≤cT∧cT≤i)∧GK nc i s next
theorem GK.mono {nc i i' s s':Int} (hi:i≤i') (hs:s≤s'):∀{g:Goal},GK nc i s g→GK nc i' s' g
 |.nil,_=>trivial
 |.mk _ _ _ _ _,h=>by
  obtain⟨h1,h2,h3,h4,h5,h6⟩:=h
  exact⟨h1,h2,fun k=>by have:=h3 k;omega,fun k=>by have:=h4 k;omega,fun k=>by have:=h5 k;exact⟨this.1,by omega⟩,h6.mono hi hs⟩
structure MS (P:Re) (t:List Int) (F:Int) (m:aC) (S:List aA) (s:Int):Prop where
 p:m.p.re=P
 t:m.t=t
 fuel:m.fuel=F
 same:m.same
 cO:va m S
 steps:m.steps=s
 aK:m.aK=false
 room:(S.length:Int)≤s
structure Po (m m':aC):Prop where
 fr:m.Fr m'
 steps:m.steps≤m'.steps
 M6:m.cr≤m'.cr
 NI:m'.cr≤max m.cr m'.steps
 cE:m.steps≤m.fuel→m'.steps≤m'.fuel
theorem Po.refl (m:aC):Po m m:=⟨.refl m,WW _,WW _,by omega,fun h=>h⟩
theorem Po.trans {m m1 m2:aC} (h:Po m m1) (k:Po m1 m2):Po m m2:=by
 obtain⟨a1,a2,a3,a4,a5⟩:=h
 obtain⟨b1,b2,b3,b4,b5⟩:=k
 exact⟨a1.trans b1,by omega,by omega,by omega,fun hh=>b5 (a5 hh)⟩
theorem MS.fr {P:Re}{t:List Int}{F:Int}{m m':aC}{S S':List aA}{s s':Int} (h:MS P t F m S s) (hf:m.Fr m') (hS:va m' S') (hs:m'.steps=s') (hp:m'.aK=false) (hr:(S'.length:Int)≤s'):MS P t F m' S' s' :=
 ⟨by rw[hf.p];exact h.p,by rw[hf.t];exact h.t,by rw[hf.fuel];exact h.fuel,fun ho=>by rw[hf.own,hf.t];exact h.same (by rw[← hf.bB];exact ho),hS,hs,hp,hr⟩
theorem MS.pop {P:Re}{t:List Int}{F:Int}{m:aC}{S:List aA}{q:aA}{s:Int} (h:MS P t F m (S++[q]) s):MS P t F m.pop S s :=
 h.fr m.E6 h.cO.last.2 h.steps h.aK (by have:=h.room;rw[W5]at this;simp at this;omega)
theorem EN (m:aC):Po m m.pop:=⟨m.E6,WW _,WW _,by show m.cr≤max m.cr m.steps;omega,fun h=>h⟩
theorem MS.cn {P:Re}{t:List Int}{F:Int}{m:aC}{S:List aA}{s:Int} (h:MS P t F m S s) (ht:t.length≤1000000) (hF:F≤1200000000000) (h0:0≤s) (h1:s≤F) {p:aA} (hi0:0≤p.at_) (e7:p.at_≤t.length) (hc:p.ak.length≤1000000000):m.cn p:=by
 refine⟨⟨by rw[h.steps];exact h0,by rw[h.steps];omega,h.cO.len,h.cO.2.2⟩,⟨hi0,by rw[h.t];exact e7,hc⟩,by rw[h.t];exact ht,h.same⟩
def gF (P:Re) (t:List Int) (F:Int) (nc:Nat) (base:Nat) (S:List aA) (ah i:Int) (m:aC) (p:aA) (al:Bool) (st:aQ) (b:Bool) (st':aQ):Prop :=
 ∃(R:List (Int×ar)) (m':aC),st'.ends=st.ends++R.map Prod.fst∧st'.ak=st.ak++R.map Prod.snd∧(∀r∈R,i≤r.1∧r.1≤t.length∧cJ t r.2∧r.2.length=nc)∧Po m m'∧st.steps≤st'.steps ∧
  ((b=false∧st'.empty=false∧(0≤ah→(st'.ends.length:Int)<ah)∧MS P t F m' S st'.steps∧st'.steps≤F∧∃p',pJ base m p al R m' p' false) ∨
   (b=true∧st'.empty=false∧0≤ah∧(st'.ends.length:Int)=ah∧st'.steps≤F∧∃(S':List aA) (R0:List (Int×ar)) (e:Int) (d:ar),MS P t F m' (S++S') st'.steps∧R=R0++[(e,d)]∧pJ base m p al R0 m' ⟨e,d,.nil⟩ true) ∨
   (b=true∧st'.empty=true∧(0≤ah→(st'.ends.length:Int)<ah)∧m'.aK=true∧∃(p':aA) (S':List aA),va m' (S++S')∧pJ base m p al R m' p' false))
section TO
variable {P:Re}{t:List Int}{F:Int}{nc base:Nat}{S:List aA}{ah i:Int}{m:aC}{p:aA}{st st':aQ}{b:Bool}
theorem gF.vQ {m1:aC}{p1:aA}{Ch:Bool} (hg:p.goals=true) (ha:Mp m p (m1,p1,Ch)) (hp:Po m m1) (h:gF P t F nc base S ah i m1 p1 Ch st b st'):gF P t F nc base S ah i m p true st b st':=by
 obtain⟨R,m',h1,h2,h3,h4,h5,h6⟩:=h
 refine⟨R,m',h1,h2,h3,hp.trans h4,h5,?_⟩
 rcases h6 with ⟨k1,k2,k3,k4,kF,p',k5⟩|⟨k1,k2,k3,k4,kF,S',R0,e,d,k5,k6,k7⟩|⟨k1,k2,k3,k4,p',S',k5,k6⟩
 ·exact .inl ⟨k1,k2,k3,k4,kF,p',.vQ hg ha k5⟩
 ·exact .inr (.inl ⟨k1,k2,k3,k4,kF,S',R0,e,d,k5,k6,.vQ hg ha k7⟩)
 ·exact .inr (.inr ⟨k1,k2,k3,k4,p',S',k5,.vQ hg ha k6⟩)
theorem gF.fi {al:Bool}{i':Int}{s0:aQ} (h:gF P t F nc base S ah i' m p al s0 b st') (hi:i≤i') (h1:s0.ends=st.ends) (h2:s0.ak=st.ak) (h3:st.steps≤s0.steps):gF P t F nc base S ah i m p al st b st':=by
 obtain⟨R,m',k1,k2,k3,k4,k5,k6⟩:=h
 exact⟨R,m',by rw[k1,h1],by rw[k2,h2],fun r hr=>by have:=k3 r hr;exact⟨by omega,this.2⟩,k4,by omega,k6⟩
theorem gF.no (hM:MS P t F m S st.steps) (he:st.empty=false) (hm:0≤ah→(st.ends.length:Int)<ah) (hF:st.steps≤F):gF P t F nc base S ah i m p false st false st :=
 ⟨[],m,by simp,by simp,by simp,.refl m,WW _,.inl ⟨rfl,he,hm,hM,hF,p,.refl m p false⟩⟩
theorem gF.out {s1:aQ} (hS:va m S) (hs:m.aK=true) (he:s1.empty=true) (hm:0≤ah→(st.ends.length:Int)<ah) (h1:s1.ends=st.ends) (h2:s1.ak=st.ak) (h3:st.steps≤s1.steps):gF P t F nc base S ah i m p false st true s1 :=
 ⟨[],m,by simp [h1],by simp [h2],by simp,.refl m,h3,.inr (.inr ⟨rfl,he,by rw[h1];exact hm,hs,p,[],by simpa using hS,.refl m p false⟩)⟩
theorem gF.or {q:aA}{al b1:Bool}{s2:aQ} (hb:base≤S.length) (h:gF P t F nc base (S++[q]) ah i m p al st b1 s2) (ht:b1=true→b=true∧st'=s2)
  (hf:b1=false→∀m2,m.Fr m2→MS P t F m2 (S++[q]) s2.steps→s2.empty=false→s2.steps≤F→(0≤ah→(s2.ends.length:Int)<ah)→st.steps≤s2.steps→gF P t F nc base S ah i m2.pop q true s2 b st'):gF P t F nc base S ah i m p al st b st':=by
 obtain⟨R,m',h1,h2,h3,h4,h5,h6⟩:=h
 rcases h6 with ⟨k1,k2,k3,k4,kF,p',k5⟩|⟨k1,k2,k3,k4,kF,S',R0,e,d,k5,k6,k7⟩|⟨k1,k2,k3,k4,p',S',k5,k6⟩
 ·obtain⟨R',m2,j1,j2,j3,j4,j5,j6⟩:=hf k1 m' h4.fr k4 k2 kF k3 h5
  have c8:∀{UJ U5 Lp Q4},pJ base m'.pop q true UJ U5 Lp Q4→pJ base m p al (R++UJ) U5 Lp Q4:=fun hr=>k5.trans (.pop k4.cO hb k4.aK hr)
  refine⟨R++R',m2,by rw[j1,h1];simp,by rw[j2,h2];simp,fun r hr=>?_,h4.trans ((EN m').trans j4),by omega,?_⟩
  ·rcases List.mem_append.1 hr with hr|hr
   ·exact h3 r hr
   ·exact j3 r hr
  ·rcases j6 with ⟨l1,l2,l3,l4,lF,Lp,l5⟩|⟨l1,l2,l3,l4,lF,S',R0,e,d,l5,l6,l7⟩|⟨l1,l2,l3,l4,Lp,S',l5,l6⟩
   ·exact .inl ⟨l1,l2,l3,l4,lF,Lp,c8 l5⟩
   ·exact .inr (.inl ⟨l1,l2,l3,l4,lF,S',R++R0,e,d,l5,by rw[l6,Xx],c8 l7⟩)
   ·exact .inr (.inr ⟨l1,l2,l3,l4,Lp,S',l5,c8 l6⟩)
 ·obtain⟨rfl,rfl⟩:=ht k1
  exact⟨R,m',h1,h2,h3,h4,h5,.inr (.inl ⟨rfl,k2,k3,k4,kF,q::S',R0,e,d,by simpa using k5,k6,k7⟩)⟩
 ·obtain⟨rfl,rfl⟩:=ht k1
  exact⟨R,m',h1,h2,h3,h4,h5,.inr (.inr ⟨rfl,k2,k3,k4,p',q::S',by simpa using k5,k6⟩)⟩
end TO
def TR (P:Re):Task→aA→Prop
 |.run h i c,p=>p.at_=i∧p.ak=c∧GR P p.todo h
 |.node (.mk _ re _ _ h) i c,p=>p.at_=i∧p.ak=c∧∃r n a g,p.todo=.mk 0 r n a g∧vU P r=some re∧GR P g h
 |.node .nil _ _,_=>False
 |.rep (.mk _ re k _ h) i c,p=>p.at_=i∧p.ak=c∧((re.mode=2∧∃r n a g,p.todo=.mk 0 r n a g∧vU P r=some re∧GR P g h)∨(re.mode≠2∧∃r nb a g,p.todo=.mk 2 r k a g∧vU P r=some nb∧RT nb re∧GR P g h))
 |.rep .nil _ _,_=>False
def TK (nc s:Int):Task→Prop
 |.run h i _=>GK nc i s h
 |.node (.mk _ re _ _ h) i _=>re.every (vB nc)=true∧GK nc i s h
 |.node .nil _ _=>False
 |.rep (.mk _ re k _ h) i _=>re.every (vB nc)=true∧re.op=4∧0≤k∧k≤s∧GK nc i s h
 |.rep .nil _ _=>False
structure SP (F ah:Int) (st:aQ):Prop where
 empty:st.empty=false
 s0:0≤st.steps
 s1:st.steps≤F
 ah:0≤ah→(st.ends.length:Int)<ah
def OR (P:Re) (t:List Int) (F:Int) (nc n:Nat):Prop:=∀ah task st b st',dA t F n ah task st=some (b,st')→∀base S m p,MS P t F m S st.steps→SP F ah st→base≤S.length→TR P task p→TK nc st.steps task →
 0≤task.pos→task.pos≤t.length→cJ t task.ak→task.ak.length=nc→gF P t F nc base S ah task.pos m p true st b st'
theorem ug {P:Re}{t:List Int}{F:Int}{m:aC}{S:List aA}{s:Int} (hM:MS P t F m S s) {r:aE}{re:Re} (hr:vU P r=some re):m.lit r=some re:=by
 cases r with
 |nil=>cases hr
 |root=>cases hr;show some m.p.re=_;rw[hM.p]
 |el re=>exact hr
theorem IW {m:aC}{base:Nat}{p:aA}{al:Bool}{x:Rs} (hs:m.aK=false) (h:Ev m base p al x):∃k,bh k true m base p al=some x:=by
 obtain⟨k,hk⟩:=h
 refine⟨k,?_⟩
 cases k with
 |zero=>cases hk
 |succ k =>
  rw[bh.eq_2]at hk ⊢
  rw[if_neg (show ¬(false=true∧m.aK=true) from fun h=>by cases h.1)]at hk
  rw[if_neg (show ¬(true=true∧m.aK=true) from fun h=>by have h2:=h.2;rw[hs]at h2;cases h2)]
  exact hk
theorem Gu {P:Re}{t:List Int}{F:Int}{m:aC}{S:List aA}{s:Int} (hM:MS P t F m S s) (h:s<F):MS P t F m.step S (s+1)∧Po m m.step∧m.step.cr=m.cr:=by
 have hs:m.step={ m with steps:=m.steps+1 }:=by rw[aC.step,if_pos (by rw[hM.steps,hM.fuel];exact h)]
 have h1:=hM.steps
 rw[hs]
 refine⟨⟨hM.p,hM.t,hM.fuel,hM.same,hM.cO,by show m.steps+1=_;rw[h1],hM.aK,by have:=hM.room;omega⟩,⟨⟨rfl,rfl,rfl,rfl,rfl,rfl,rfl,rfl⟩,by show m.steps≤m.steps+1;omega,WW _,by show m.cr≤max m.cr _;omega,fun _=>by show m.steps+1≤m.fuel;rw[hM.steps,hM.fuel];omega⟩,rfl⟩
theorem CA {P:Re}{t:List Int}{F:Int}{m:aC}{S:List aA}{s:Int} (hM:MS P t F m S s) (h:F≤s):va m.step S∧m.step.aK=true∧Po m m.step:=by
 have hs:m.step={ m with aK:=true }:=by rw[aC.step,if_neg (by rw[hM.steps,hM.fuel];omega)]
 rw[hs]
 exact⟨hM.cO,rfl,⟨rfl,rfl,rfl,rfl,rfl,rfl,rfl,rfl⟩,WW _,WW _,by show m.cr≤max m.cr _;omega,fun h=>h⟩
theorem AX {P:Re}{t:List Int}{F:Int}{m:aC}{S:List aA}{s:Int} (hM:MS P t F m S s) (q:aA) (h:(S.length:Int)+1≤s) (hF:F≤1200000000000) (hs:s≤F):MS P t F (m.push q) (S++[q]) s∧Po m (m.push q):=by
 have hk:=hM.cO.push q (by omega)
 have h1:=hM.steps
 have ht:=hM.cO.2.1
 refine⟨hM.fr (m.wq q) hk h1 hM.aK (by rw[W5];simpa using h),m.wq q,WW _,?_,?_,fun h=>h⟩
 ·show m.cr≤max m.cr _;omega
 ·show max m.cr ((m.top+1:Nat):Int)≤max m.cr m.steps;omega
theorem IC {P:Re}{t:List Int}{F:Int}{nc:Nat}{S:List aA}{i:Int}{m:aC}{q:aA}{s:Int}{b:Bool}{x:aQ} (hM:MS P t F m S s) (h:gF P t F nc S.length S 1 i m q true ⟨s,false,[],[]⟩ b x) :
  ∃m1 r found,(∃k,eS (fun m base p=>bh k true m base p true) m q=some (m1,r,found))∧Po m m1∧va m1 S∧s≤x.steps ∧
   ((x.empty=false∧MS P t F m1 S x.steps∧x.steps≤F∧((found=true∧∃e d,x.ends=[e]∧x.ak=[d]∧r=⟨e,d,.nil⟩∧i≤e∧e≤t.length∧cJ t d∧d.length=nc)∨(found=false∧x.ends=[]∧x.ak=[]))) ∨
    (x.empty=true∧m1.aK=true∧found=false)):=by
 obtain⟨R,m',h1,h2,h3,h4,h5,h6⟩:=h
 simp only[WS]at h1 h2
 have pt:m.top=S.length:=hM.cO.2.1
 have fin:∀{m2 r found S'},Ev m S.length q true (m2,r,found)→va m2 (S++S')→∃k,eS (fun m base p=>bh k true m base p true) m q=some (m2.clear S.length,r,found):=by
  intro m2 r found S' he OI
  obtain⟨k,hk⟩:=IW hM.aK he
  refine⟨k,?_⟩
  simp only[eS]
  rw[pt,hk]
  simp only
  rw[if_neg]
  have:=OI.2.1
  have:=OI.len
  rw[W5]at *
  omega
 have SI:∀{m2:aC},Po m m2→Po m (m2.clear S.length):=fun h=>⟨h.fr.trans (aC.tH _ _),h.steps,h.M6,h.NI,h.cE⟩
 rcases h6 with ⟨k1,k2,k3,k4,kF,p',k5⟩|⟨k1,k2,k3,k4,kF,S',R0,e,d,k5,k6,k7⟩|⟨k1,k2,k3,k4,p',S',k5,k6⟩
 ·
  have hx:x.ends=[]:=Xb (by have:=k3 (by omega);omega)
  have hR:R=[]:=by rw[h1]at hx;exact List.map_eq_nil_iff.1 hx
  subst hR
  have he:Ev m S.length q true (m',.zero,false):=qB k5 rfl (wC k4.cO.2.1)
  refine⟨_,_,_,fin (S':=[]) he (by simpa using k4.cO),SI h4,(show va m' (S++[]) by simpa using k4.cO).clear,h5,.inl ⟨k2,?_,kF,.inr ⟨rfl,by simpa using h1,by simpa using h2⟩⟩⟩
  exact k4.fr (aC.tH _ _) (show va m' (S++[]) by simpa using k4.cO).clear k4.steps k4.aK k4.room
 ·have Oh:R0=[]:=by
   have:=congrArg List.length h1
   rw[k6]at this
   simp at this
   exact Xb (by omega)
  subst Oh
  simp only[WS]at k6
  subst k6
  have he:Ev m S.length q true (m',⟨e,d,.nil⟩,true):=by
   refine qB k7 rfl ?_
   have:=Cx (m:=m') (base:=S.length) (p:=⟨e,d,.nil⟩) rfl
   rwa [k5.aK]at this
  have hr:=h3 (e,d) (by simp)
  refine⟨_,_,_,fin he k5.cO,SI h4,k5.cO.clear,h5,.inl ⟨k2,?_,kF,.inl ⟨rfl,e,d,by simpa using h1,by simpa using h2,rfl,hr.1,hr.2.1,hr.2.2.1,hr.2.2.2⟩⟩⟩
  exact k5.fr (aC.tH _ _) k5.cO.clear k5.steps k5.aK (by have:=k5.room;rw[W5]at this;omega)
 ·have hx:x.ends=[]:=Xb (by have:=k3 (by omega);omega)
  have hR:R=[]:=by rw[h1]at hx;exact List.map_eq_nil_iff.1 hx
  subst hR
  -- II search ends: at once,or behind one more choice
  have kT:∃m2 S2,Ev m' S.length p' false (m2,.zero,false)∧va m2 (S++S2)∧m2.aK=true∧Po m' m2:=by
   rcases List.eq_nil_or_concat S' with rfl|⟨S2,q2,rfl⟩
   ·refine⟨m',[],wC (by simpa using k5.2.1),by simpa using k5,k4,.refl _⟩
   ·have Kz:va m' ((S++S2)++[q2]):=by simpa [Xx]using k5
    refine⟨m'.pop,S2,?_,Kz.last.2,k4,EN m'⟩
    have hl:=Kz.len
    have ht:m'.top=(S++S2).length+1:=by rw[Kz.2.1,W5];rfl
    refine⟨2,?_⟩
    rw[bh.eq_2,if_neg (show ¬(false=true∧m'.aK=true) from fun h=>by cases h.1),if_neg (fun h=>by cases h.1),if_neg (fun h=>by cases h),if_neg (by rw[ht,W5];omega),if_neg (by have:=Kz.2.2;omega),Kz.last.1]
    simp only
    rw[bh.eq_2,if_pos ⟨rfl,k4⟩]
  obtain⟨m2,S2,j1,j2,j3,j4⟩:=kT
  exact⟨_,_,_,fin (qB k6 rfl j1) j2,SI (h4.trans j4),j2.clear,h5,.inr ⟨k2,j3,rfl⟩⟩
section QR
variable {m:aC}{i n a:Int}{c:ar}{r:aE}{g:aG}{y:Rs}
theorem lg (hg:m.cn ⟨i,c,.mk 0 r n a g⟩) (h:∃k,bq (fun m base p=>bh k true m base p true) m r ⟨i,c,g⟩=some y):Mp m ⟨i,c,.mk 0 r n a g⟩ y:=by
 obtain⟨k,hk⟩:=h
 refine⟨k,?_⟩
 unfold gn
 rw[if_neg (by simpa using hg)]
 exact hk
theorem nR (hg:m.cn ⟨i,c,.mk 2 r n a g⟩) (hn:0≤n) (fY:n≤10000000000000) (h:jm m r n ⟨i,c,g⟩=some y):Mp m ⟨i,c,.mk 2 r n a g⟩ y:=by
 refine⟨0,?_⟩
 unfold gn
 rw[if_neg (by simpa using hg)]
 simp only
 rw[if_neg (by decide),if_neg (by omega),if_neg (by decide),if_pos trivial]
 exact h
theorem Kg {re kid:Re} (hg:m.cn ⟨i,c,.mk 1 r n a g⟩) (hn:0≤n) (fY:n≤10000000000000) (hr:m.lit r=some re) (hl:re.kids.length≤1000000000) (hk:re.kids[n.toNat]?=some kid) :
  Mp m ⟨i,c,.mk 1 r n a g⟩ (if n+1<re.kids.length then m.push ⟨i,c,.mk 1 r (n+1) 0 g⟩ else m,⟨i,c,.mk 0 (.el kid) 0 0 g⟩,true):=by
 refine⟨0,?_⟩
 unfold gn
 rw[if_neg (by simpa using hg)]
 simp only
 rw[if_neg (by decide),if_neg (by omega),if_pos trivial,hr]
 simp only
 rw[if_neg (by omega),hk]
 rfl
theorem HZ (hg:m.cn ⟨i,c,.mk 3 r n a g⟩) (hn:0≤n) (fY:n≤10000000000000):Mp m ⟨i,c,.mk 3 r n a g⟩ (if i=a then (m,.zero,false) else (m,⟨i,c,.mk 2 r n 0 g⟩,true)):=by
 refine⟨0,?_⟩
 unfold gn
 rw[if_neg (by simpa using hg)]
 simp only
 rw[if_neg (by decide),if_neg (by omega),if_neg (by decide),if_neg (by decide),if_pos trivial]
 split <;> rfl
theorem L7 {re:Re} (hg:m.cn ⟨i,c,.mk 4 r 0 a g⟩) (hr:m.lit r=some re) (h1:1≤re.n) (h2:re.n≤c.length):Mp m ⟨i,c,.mk 4 r 0 a g⟩ (m,⟨i,c.set (re.n-1).toNat (a,i),g⟩,true):=by
 refine⟨0,?_⟩
 unfold gn
 rw[if_neg (by simpa using hg)]
 simp only
 rw[if_neg (by decide),if_neg (by decide),if_neg (by decide),if_neg (by decide),if_neg (by decide),if_pos trivial,hr]
 simp only
 rw[if_neg (by omega)]
theorem ES (hg:m.cn ⟨i,c,.mk 5 r 0 a g⟩):Mp m ⟨i,c,.mk 5 r 0 a g⟩ (m,⟨i,c,g⟩,decide (i=a)):=by
 refine⟨0,?_⟩
 unfold gn
 rw[if_neg (by simpa using hg)]
 simp only
 rw[if_neg (by decide),if_neg (by decide),if_neg (by decide),if_neg (by decide),if_neg (by decide),if_neg (by decide),if_pos trivial]
end QR
theorem uC {nc:Int}{re:Re} (h:re.every (vB nc)=true):((re.op=3∨re.op=4∨re.op=5∨re.op=7∨re.op=8∨re.op=9→re.kids≠[])∧(re.op=10→2≤re.kids.length)∧re.set.length≤1000000000∧re.kids.length≤1000000000 ∧
  (re.op=5∨re.op=6∨re.op=10→1≤re.n∧re.n≤nc)∧(re.op=11→0≤re.n∧re.n≤5)∧(re.op=4→-1≤re.mx))∧∀k∈re.kids,k.every (vB nc)=true:=by
 obtain⟨h1,h2⟩:=(Re.ck re).1 h
 exact⟨of_decide_eq_true h1,h2⟩
structure Fx (t:List Int) (F:Int) (nc:Nat):Prop where
 ht:t.length≤1000000
 hF:F≤1200000000000
 nc:nc≤1000000000
theorem SP.step {F ah:Int}{st:aQ} (h:SP F ah st) (he:(st.step F).empty=false):st.steps<F∧SP F ah (st.step F):=by
 simp only[aQ.step,h.empty,Xj]at he
 have h1:=of_decide_eq_false he
 refine⟨by omega,?_,by show 0≤st.steps+1;have:=h.s0;omega,by show st.steps+1≤F;omega,h.ah⟩
 simp only[aQ.step,h.empty,Xj]
 exact decide_eq_false h1
theorem SP.Gp {F ah:Int}{st:aQ} (h:SP F ah st) (he:(st.step F).empty=true):F≤st.steps:=by
 simp only[aQ.step,h.empty,Xj]at he
 have:=of_decide_eq_true he
 omega
section rep
variable {P:Re}{t:List Int}{F:Int}{nc n:Nat} (X:Fx t F nc) (ih:OR P t F nc n)
include X ih
theorem LX {ah:Int}{re nb:Re}{k i:Int}{c:ar}{next:Goal}{st st':aQ}{b:Bool}{base:Nat}{S:List aA}{m:aC}{r:aE}{a:Int}{g:aG} (hM:MS P t F m S st.steps) (hS:SP F ah st) (hb:base≤S.length)
  (hr:vU P r=some nb) (Tc:RT nb re) (hg:GR P g next) (hv:re.every (vB nc)=true) (o4:re.op=4) (lK:re.mode≠2) (hk0:0≤k) (jT:k≤st.steps) (hn:GK nc i st.steps next) (hi0:0≤i) (e7:i≤t.length) (hc:cJ t c) (cK:c.length=nc)
  (h:jA F (dA t F n) ah re k next i c st=some (b,st')):gF P t F nc base S ah i m ⟨i,c,.mk 2 r k a g⟩ true st b st':=by
 have ij:=hS.s0
 have gy:=hS.s1
 have hF:=X.hF
 unfold jA at h
 rw[if_neg lK]at h
 rw[if_neg (show ¬(st.steps<0∨10000000000000<st.steps) by omega)]at h
 simp only at h
 have eI:=hM.cn (p:=⟨i,c,.mk 2 r k a g⟩) X.ht hF ij gy hi0 e7 (by show c.length≤_;rw[cK];exact X.nc)
 have Mn:=ug hM hr
 -- II tree of II machine
 have e0:nb.kids=re.kids∧nb.mn=re.mn∧nb.mx=re.mx∧(nb.mode=1 ↔ re.mode=1):=by
  rcases Tc with ⟨rfl,_⟩|⟨h2,rfl⟩
  ·exact⟨rfl,rfl,rfl,Iff.rfl⟩
  ·refine⟨rfl,rfl,rfl,?_⟩
   rw[h2];simp [Re.cq,Re.mode]
 obtain⟨e1,e2,e3,e4⟩:=e0
 obtain⟨⟨v1,_,_,v4,_,_,v7⟩,yz⟩:=uC hv
 obtain⟨kid,l,cz⟩:∃kid l,re.kids=kid::l:=by
  cases hh:re.kids with
  |nil=>exact absurd hh (v1 (by omega))
  |cons y l=>exact⟨y,l,rfl⟩
 have dg:∀y,jm m r k ⟨i,c,g⟩=y→jm m r k ⟨i,c,g⟩=(if m.fuel≤m.steps then some (m.step,.zero,false) else if k<re.mn then some (m.step,⟨i,c,.mk 0 (.el kid) 0 0 (.mk 2 r (k+1) 0 g)⟩,true)
   else if 0≤re.mx∧re.mx≤k then some (m.step,⟨i,c,g⟩,true)
   else if re.mode=1 then some (m.step.push ⟨i,c,.mk 0 (.el kid) 0 0 (.mk 3 r (k+1) i g)⟩,⟨i,c,g⟩,true) else some (m.step.push ⟨i,c,g⟩,⟨i,c,.mk 0 (.el kid) 0 0 (.mk 3 r (k+1) i g)⟩,true)):=by
  intro y _
  unfold jm
  rw[Mn]
  simp only
  rw[e1,cz,e2,e3]
  simp only[e4]
 have dg:=dg _ rfl
 by_cases he:(st.step F).empty=true
 ·rw[if_pos he]at h
  cases h
  have GQ:=hS.Gp he
  obtain⟨q1,q2,q3⟩:=CA hM GQ
  refine gF.vQ rfl (nR eI hk0 (by omega) (y:=(m.step,.zero,false)) ?_) q3 (gF.out q1 q2 he hS.ah rfl rfl (by show st.steps≤st.steps+1;omega))
  rw[dg,if_pos (by rw[hM.steps,hM.fuel];exact GQ)]
 rw[if_neg he]at h
 have he:(st.step F).empty=false:=by simpa using he
 obtain⟨aS,tW⟩:=hS.step he
 obtain⟨pK,Ee,_⟩:=Gu hM aS
 rw[if_neg (by rw[hM.steps,hM.fuel];omega)]at dg
 have O8:(st.step F).steps=st.steps+1:=rfl
 have nX:(st.step F).ends=st.ends:=rfl
 have M8:(st.step F).ak=st.ak:=rfl
 rw[← O8]at pK
 generalize TC:st.step F=s1 at *
 rw[cz]at h
 simp only at h
 have oY:kid.every (vB nc)=true:=yz kid (by rw[cz];simp)
 have fY:GK nc i s1.steps next:=hn.mono (WW _) (by omega)
 -- one more round
 have once:∀(s s':aQ) (b':Bool) (S2:List aA) (m2:aC),base≤S2.length→MS P t F m2 S2 s.steps→SP F ah s→s1.steps≤s.steps→dA t F n ah (.run (.mk 0 kid 0 0 (.mk 2 re k i next)) i c) s=some (b',s')→re.mn≤k→gF P t F nc base S2 ah i m2 ⟨i,c,.mk 0 (.el kid) 0 0 (.mk 3 r (k+1) i g)⟩ true s b' s':=by
  intro s s' b' S2 m2 Ln rX SL sm eX hmn
  refine ih ah _ s b' s' eX base S2 m2 _ rX SL Ln ⟨rfl,rfl,.tree rfl (.dv hr Tc hmn hg)⟩ ?_ hi0 e7 hc cK
  exact⟨fun _=>oY,fun h=>by omega,fun h=>by omega,fun h=>by omega,fun h=>by omega,fun _=>hv,fun _=>⟨o4,lK,hk0⟩,fun h=>by omega,fun _=>by omega,fun h=>by omega,fY.mono (WW _) sm⟩
 have OT:∀(s s':aQ) (b':Bool) (S2:List aA) (m2:aC),base≤S2.length→MS P t F m2 S2 s.steps→SP F ah s→s1.steps≤s.steps→dA t F n ah (.run next i c) s=some (b',s')→gF P t F nc base S2 ah i m2 ⟨i,c,g⟩ true s b' s':=by
  intro s s' b' S2 m2 Ln rX SL sm eX
  exact ih ah _ s b' s' eX base S2 m2 _ rX SL Ln ⟨rfl,rfl,hg⟩ (fY.mono (WW _) sm) hi0 e7 hc cK
 by_cases c2:k<re.mn
 ·rw[if_pos c2]at h
  rw[if_pos c2]at dg
  refine gF.vQ rfl (nR eI hk0 (by omega) dg) Ee (gF.fi ?_ (WW _) nX M8 (by omega))
  refine ih ah _ s1 b st' h base S _ _ pK tW hb ⟨rfl,rfl,.tree rfl (.more hr Tc c2 hg)⟩ ?_ hi0 e7 hc cK
  exact⟨fun _=>oY,fun h=>by omega,fun h=>by omega,fun h=>by omega,fun h=>by omega,fun _=>hv,fun _=>⟨o4,lK,hk0⟩,fun h=>by omega,fun _=>by omega,fun h=>by omega,fY⟩
 rw[if_neg c2]at h dg
 have Tm:=v7 o4
 by_cases cM:re.mx=-1∨k<re.mx
 ·rw[if_neg (show ¬(0≤re.mx∧re.mx≤k) by omega)]at dg
  simp only[if_pos cM]at h
  have fe:=hM.room
  by_cases m1:re.mode=1
  ·rw[if_pos m1]at h dg
   obtain⟨Qw,QF⟩:=AX pK ⟨i,c,.mk 0 (.el kid) 0 0 (.mk 3 r (k+1) i g)⟩ (by omega) hF tW.s1
   refine gF.vQ rfl (nR eI hk0 (by omega) dg) (Ee.trans QF) (gF.fi ?_ (WW _) nX M8 (by omega))
   cases hx:dA t F n ah (.run next i c) s1 with
   |none=>rw[hx]at h;cases h
   |some y =>
    obtain⟨b1,s2⟩:=y
    rw[hx]at h
    refine gF.or hb (OT s1 s2 b1 _ _ (by rw[W5];omega) Qw tW (WW _) hx) (fun Ha=>?_) (fun Ha m2 kM rX s8 JC ss sm=>?_)
    ·subst Ha;simp only[jP]at h;cases h;exact⟨rfl,rfl⟩
    ·subst Ha
     simp only[jP]at h
     exact once s2 st' b S m2.pop hb rX.pop ⟨s8,by omega,JC,ss⟩ sm h (by omega)
  ·rw[if_neg m1]at h dg
   obtain⟨Qw,QF⟩:=AX pK ⟨i,c,g⟩ (by omega) hF tW.s1
   refine gF.vQ rfl (nR eI hk0 (by omega) dg) (Ee.trans QF) (gF.fi ?_ (WW _) nX M8 (by omega))
   cases hx:dA t F n ah (.run (.mk 0 kid 0 0 (.mk 2 re k i next)) i c) s1 with
   |none=>rw[hx]at h;cases h
   |some y =>
    obtain⟨b1,s2⟩:=y
    rw[hx]at h
    refine gF.or hb (once s1 s2 b1 _ _ (by rw[W5];omega) Qw tW (WW _) hx (by omega)) (fun Ha=>?_) (fun Ha m2 kM rX s8 JC ss sm=>?_)
    ·subst Ha;simp only[jP]at h;cases h;exact⟨rfl,rfl⟩
    ·subst Ha
     simp only[jP]at h
     exact OT s2 st' b S m2.pop hb rX.pop ⟨s8,by omega,JC,ss⟩ sm h
 ·rw[if_pos (show 0≤re.mx∧re.mx≤k by omega)]at dg
  simp only[if_neg cM]at h
  have h':dA t F n ah (.run next i c) s1=some (b,st'):=by
   split at h
   ·cases hx:dA t F n ah (.run next i c) s1 with
    |none=>rw[hx]at h;cases h
    |some y =>
     obtain⟨b1,s2⟩:=y
     rw[hx]at h
     cases b1 with
     |true=>exact h
     |false=>exact h
   ·exact h
  refine gF.vQ rfl (nR eI hk0 (by omega) dg) Ee (gF.fi (OT s1 st' b S _ hb pK tW (WW _) h') (WW _) nX M8 (by omega))
end rep
section nodes
variable {P:Re}{t:List Int}{F:Int}{nc n:Nat} (X:Fx t F nc) (ih:OR P t F nc n)
include ih
theorem uU {h:Goal}{q:Int}{c:ar}{st s2:aQ}{o:Option (Int×ar)}{S:List aA}{m:aC}{gb:aG} (hM:MS P t F m S st.steps) (he:st.empty=false) (ij:0≤st.steps) (gy:st.steps≤F) (hg:GR P gb h) (hk:GK nc q st.steps h) (Vv:0≤q) (Vo:q≤t.length) (hc:cJ t c) (cK:c.length=nc)
  (hr:bJ (dA t F n) h q c st=some (o,s2)) :
  ∃m1 r found,(∃k,eS (fun m base p=>bh k true m base p true) m ⟨q,c,gb⟩=some (m1,r,found))∧Po m m1∧va m1 S∧st.steps≤s2.steps∧s2.ends=st.ends∧s2.ak=st.ak ∧
   ((s2.empty=false∧MS P t F m1 S s2.steps∧s2.steps≤F∧((found=true∧∃e d,o=some (e,d)∧r=⟨e,d,.nil⟩∧q≤e∧e≤t.length∧cJ t d∧d.length=nc)∨(found=false∧o=none))) ∨
    (s2.empty=true∧m1.aK=true∧found=false∧o=none)):=by
 unfold bJ at hr
 cases hx:dA t F n 1 (.run h q c) ⟨st.steps,false,[],[]⟩ with
 |none=>rw[hx]at hr;cases hr
 |some y =>
  obtain⟨b,x⟩:=y
  rw[hx]at hr
  simp only at hr
  have sA:=ih 1 _ _ _ _ hx S.length S m ⟨q,c,gb⟩ hM ⟨rfl,ij,gy,fun _=>by simp⟩ (W4 _) ⟨rfl,rfl,hg⟩ hk Vv Vo hc cK
  obtain⟨m1,r,found,k1,k2,k3,k4,k5⟩:=IC hM sA
  rcases k5 with ⟨j1,j2,j3,j4⟩|⟨j1,j2,j3⟩
  ·rw[if_neg (by rw[j1];exact Xe)]at hr
   rcases j4 with ⟨l1,e,d,l2,l3,l4,l5,l6,l7,l8⟩|⟨l1,l2,l3⟩
   ·rw[l2,l3]at hr
    cases hr
    exact⟨m1,r,found,k1,k2,k3,k4,rfl,rfl,.inl ⟨j1,j2,j3,.inl ⟨l1,e,d,rfl,l4,l5,l6,l7,l8⟩⟩⟩
   ·rw[l2,l3]at hr
    cases hr
    exact⟨m1,r,found,k1,k2,k3,k4,rfl,rfl,.inl ⟨j1,j2,j3,.inr ⟨l1,rfl⟩⟩⟩
  ·rw[if_pos j1]at hr
   cases hr
   exact⟨m1,r,found,k1,k2,k3,k4,rfl,rfl,.inr ⟨j1,j2,j3,rfl⟩⟩
def Cc (P:Re) (t:List Int) (F:Int) (nc:Nat) (S:List aA) (neg:Bool) (p:aA) (m:aC) (st:aQ) (ro:Option ar) (s2:aQ) (x:Rs):Prop :=
 Po m x.1∧va x.1 S∧st.steps≤s2.steps∧s2.ends=st.ends∧s2.ak=st.ak ∧
  ((s2.empty=true∧x.1.aK=true∧x.2.2=false) ∨
   (s2.empty=false∧MS P t F x.1 S s2.steps∧s2.steps≤F∧((ro=none∧x.2.1=p∧x.2.2=neg)∨∃d,ro=some d∧cJ t d∧d.length=nc∧((neg=true∧x.2.2=false)∨(neg=false∧x.2.1={ p with ak:=d }∧x.2.2=true)))))
theorem uG {h:Goal}{gb:aG}{c:ar}{S:List aA}{neg:Bool}{p:aA}{last:Int} (hg:GR P gb h) (hc:cJ t c) (cK:c.length=nc):∀(j:Nat) (m:aC) (st s2:aQ) (ro:Option ar),
  (∀q:Nat,q<j→0≤last+q∧last+q≤t.length)→(∀(q s:Int),st.steps≤s→GK nc q s h)→MS P t F m S st.steps→st.empty=false→0≤st.steps→st.steps≤F →
  bQ (fun k st=>bJ (dA t F n) h (last+k) c st) j st=some (ro,s2) →
  ∃x,(∃k,fT (fun q m=>eS (fun m base p=>bh k true m base p true) m ⟨q,c,gb⟩) neg p last j m=some x)∧Cc P t F nc S neg p m st ro s2 x
 |0,m,st,s2,ro,_,_,hM,he,_,gy,hr=>by
  simp only[bQ]at hr
  cases hr
  exact⟨(m,p,neg&&!m.aK),⟨0,rfl⟩,.refl m,hM.cO,WW _,rfl,rfl,.inr ⟨he,hM,gy,.inl ⟨rfl,rfl,by rw[hM.aK];simp⟩⟩⟩
 |j+1,m,st,s2,ro,hq,hk,hM,he,ij,gy,hr=>by
  simp only[bQ]at hr
  rw[if_neg (by rw[he];exact Xe)]at hr
  have Uz:=hq j (by omega)
  cases hx:bJ (dA t F n) h (last+j) c st with
  |none=>rw[hx]at hr;cases hr
  |some y =>
   obtain⟨o,s3⟩:=y
   rw[hx]at hr
   obtain⟨m1,r,found,⟨k1,jT⟩,k2,k3,k4,k5,k6,k7⟩:=uU ih hM he ij gy hg (hk _ _ (WW _)) Uz.1 Uz.2 hc cK hx
   rcases k7 with ⟨j1,j2,j3,⟨rfl,e,d,rfl,rfl,l3,l4,l5,l6⟩|⟨rfl,rfl⟩⟩|⟨j1,j2,rfl,rfl⟩
   ·simp only at hr
    cases hr
    refine⟨if neg=true then (m1,.zero,false) else (m1,{ p with ak:=d },true),⟨k1,?_⟩,?_⟩
    ·simp only[fT]
     rw[if_neg (by rw[hM.aK];exact Xe),jT]
     simp only[if_true]
     split <;> rfl
    ·cases neg with
     |true=>exact⟨k2,k3,k4,k5,k6,.inr ⟨j1,j2,j3,.inr ⟨d,rfl,l5,l6,.inl ⟨rfl,rfl⟩⟩⟩⟩
     |false=>exact⟨k2,k3,k4,k5,k6,.inr ⟨j1,j2,j3,.inr ⟨d,rfl,l5,l6,.inr ⟨rfl,rfl,rfl⟩⟩⟩⟩
   ·simp only at hr
    obtain⟨x,⟨RE,od⟩,p1,p2,p3,p4,p5,p6⟩:=uG hg hc cK j m1 s3 s2 ro (fun q WA=>hq q (by omega)) (fun q s sm=>hk q s (by omega)) j2 j1 (by omega) j3 hr
    refine⟨x,⟨max k1 RE,?_⟩,k2.trans p1,p2,by omega,by rw[p4,k5],by rw[p5,k6],p6⟩
    simp only[fT]
    rw[if_neg (by rw[hM.aK];exact Xe),mz (fun m base p x hx=>oE (X6 k1 RE) hx) jT]
    simp only[W2,if_false]
    exact rR (fun q m x hx=>mz (fun m base p x hx=>oE (X2 k1 RE) hx) hx) _ _ _ od
   ·simp only at hr
    have Vc:(ro,s2)=(none,s3):=by
     cases j with
     |zero=>simp only[bQ]at hr;exact(XN hr).symm
     |succ j=>simp only[bQ]at hr;rw[if_pos j1]at hr;exact(XN hr).symm
    cases Vc
    refine⟨(m1,p,neg&&!m1.aK),⟨k1,?_⟩,k2,k3,k4,k5,k6,.inl ⟨j1,j2,by rw[j2];simp⟩⟩
    simp only[fT]
    rw[if_neg (by rw[hM.aK];exact Xe),jT]
    simp only[W2,if_false]
    cases j with
    |zero=>simp only[fT]
    |succ j=>simp only[fT];rw[if_pos j2]
include X
theorem Gy {ah:Int}{re:Re}{i:Int}{c:ar}{next:Goal}{base:Nat}{r:aE}{g:aG}{b:Bool}{st':aQ} (hr:vU P r=some re) (hg:GR P g next) (hv:re.every (vB nc)=true) (hi0:0≤i) (e7:i≤t.length) (hc:cJ t c) (cK:c.length=nc) :
  ∀(l:List Re) (j:Nat) (st:aQ) (S:List aA) (m:aC) (a:Int),re.kids.drop j=l→l≠[]→MS P t F m S st.steps→SP F ah st→(S.length:Int)+1≤st.steps→base≤S.length→GK nc i st.steps next →
   iT (fun k st=>dA t F n ah (.run (.mk 0 k 0 0 next) i c) st) l st=some (b,st')→gF P t F nc base S ah i m ⟨i,c,.mk 1 r j a g⟩ true st b st'
 |[],_,_,_,_,_,_,gr,_,_,_,_,_,_=>absurd rfl gr
 |kid::l,j,st,S,m,a,hl,_,hM,hS,fe,hb,hk,h=>by
  have zc:re.kids[j]?=some kid:=by
   have:=congrArg (fun l=>l[0]?) hl
   simpa using this
  have hj:=(List.getElem?_eq_some_iff.1 zc).1
  obtain⟨⟨_,_,_,v4,_,_,_⟩,yz⟩:=uC hv
  have eI:=hM.cn (p:=⟨i,c,.mk 1 r j a g⟩) X.ht X.hF hS.s0 hS.s1 hi0 e7 (by show c.length≤_;rw[cK];exact X.nc)
  have oX:=Kg (re:=re) (kid:=kid) eI (by omega) (by omega) (ug hM hr) v4 (by simpa using zc)
  have c8:∀(Pt:aQ) (b1:Bool) (s2:aQ) (S2:List aA) (m2:aC),dA t F n ah (.run (.mk 0 kid 0 0 next) i c) Pt=some (b1,s2)→MS P t F m2 S2 Pt.steps→SP F ah Pt→base≤S2.length→st.steps≤Pt.steps →
    gF P t F nc base S2 ah i m2 ⟨i,c,.mk 0 (.el kid) 0 0 g⟩ true Pt b1 s2:=by
   intro Pt b1 s2 S2 m2 eX rX PM Ln sm
   exact ih ah _ Pt b1 s2 eX base S2 m2 _ rX PM Ln ⟨rfl,rfl,.tree rfl hg⟩ ⟨fun _=>yz kid (W6 zc),fun h=>by omega,fun h=>by omega,fun h=>by omega,fun h=>by omega,hk.mono (WW _) sm⟩ hi0 e7 hc cK
  have KK:re.kids.drop (j+1)=l:=by
   have h1:re.kids.drop (j+1)=(re.kids.drop j).drop 1:=by rw[List.drop_drop]
   rw[h1,hl];rfl
  simp only[iT]at h
  cases hx:dA t F n ah (.run (.mk 0 kid 0 0 next) i c) st with
  |none=>rw[hx]at h;cases h
  |some y =>
   obtain⟨b1,s2⟩:=y
   rw[hx]at h
   cases l with
   |nil =>
    have hlen:re.kids.length=j+1:=by have:=congrArg List.length KK;simp at this;omega
    rw[if_neg (by omega)]at oX
    have IK:b1=b∧s2=st':=by
     cases b1 with
     |true=>simp only[jP]at h;cases h;exact⟨rfl,rfl⟩
     |false=>simp only[jP,iT]at h;cases h;exact⟨rfl,rfl⟩
    obtain⟨rfl,rfl⟩:=IK
    exact gF.vQ rfl oX (.refl m) (c8 st b1 s2 S m hx hM hS hb (WW _))
   |cons k2 l2 =>
    have hlen:j+1<re.kids.length:=by have:=congrArg List.length KK;simp at this;omega
    rw[if_pos (by omega)]at oX
    obtain⟨Qw,QF⟩:=AX hM ⟨i,c,.mk 1 r ((j:Int)+1) 0 g⟩ fe X.hF hS.s1
    refine gF.vQ rfl oX QF ?_
    refine gF.or hb (c8 st b1 s2 _ _ hx Qw hS (by rw[W5];omega) (WW _)) (fun Ha=>?_) (fun Ha m2 kM rX s8 JC ss sm=>?_)
    ·subst Ha;simp only[jP]at h;cases h;exact⟨rfl,rfl⟩
    ·subst Ha
     simp only[jP]at h
     have:=Gy hr hg hv hi0 e7 hc cK (k2::l2) (j+1) s2 S m2.pop 0 KK (by simp) rX.pop ⟨s8,by have:=hS.s0;omega,JC,ss⟩ (by omega) hb (hk.mono (WW _) sm) h
     simpa using this
end nodes
theorem GX {P:Re}{g:aG}{h:Goal} (hg:GR P g h):∀l:List Re,GR P (eH l g) (iZ l h)
 |[]=>hg
 |k::l=>.tree rfl (GX hg l)
theorem Gw {nc i s:Int}{h:Goal} (hk:GK nc i s h):∀l:List Re,(∀k∈l,k.every (vB nc)=true)→GK nc i s (iZ l h)
 |[],_=>hk
 |k::l,hv=>⟨fun _=>hv k (by simp),fun h=>by omega,fun h=>by omega,fun h=>by omega,fun h=>by omega,Gw hk l (fun x hx=>hv x (by simp [hx]))⟩
section nodes
variable {P:Re}{t:List Int}{F:Int}{nc n:Nat} (X:Fx t F nc) (ih:OR P t F nc n)
include X ih
theorem Je {ah:Int}{re:Re}{i:Int}{c:ar}{next:Goal}{st st':aQ}{b:Bool}{base:Nat}{S:List aA}{m:aC}{r:aE}{n0 a:Int}{g:aG} (hM:MS P t F m S st.steps) (hS:SP F ah st) (hb:base≤S.length)
  (hr:vU P r=some re) (hg:GR P g next) (hv:re.every (vB nc)=true) (o4:re.op≠4) (hn:GK nc i st.steps next) (hi0:0≤i) (e7:i≤t.length) (hc:cJ t c) (cK:c.length=nc)
  (h:(if (st.step F).empty then some (true,st.step F) else cQ t (dA t F n) ah re next i c (st.step F))=some (b,st')):gF P t F nc base S ah i m ⟨i,c,.mk 0 r n0 a g⟩ true st b st':=by
 have ij:=hS.s0
 have gy:=hS.s1
 have hF:=X.hF
 have OU:c.length≤1000000000:=by rw[cK];exact X.nc
 have eI:=hM.cn (p:=⟨i,c,.mk 0 r n0 a g⟩) X.ht hF ij gy hi0 e7 OU
 have Mn:=ug hM hr
 obtain⟨⟨v1,v2,v3,v4,v5,v6,_⟩,yz⟩:=uC hv
 by_cases he:(st.step F).empty=true
 ·rw[if_pos he]at h
  cases h
  have GQ:=hS.Gp he
  obtain⟨q1,q2,q3⟩:=CA hM GQ
  refine gF.vQ rfl (lg eI (y:=(m.step,.zero,false)) ⟨0,?_⟩) q3 (gF.out q1 q2 he hS.ah rfl rfl (by show st.steps≤st.steps+1;omega))
  unfold bq
  rw[Mn]
  simp only
  rw[if_neg (by omega),if_neg o4,if_pos (by rw[hM.steps,hM.fuel];exact GQ)]
 rw[if_neg he]at h
 have he:(st.step F).empty=false:=by simpa using he
 obtain⟨aS,tW⟩:=hS.step he
 obtain⟨pK,Ee,_⟩:=Gu hM aS
 have SB:¬m.fuel≤m.steps:=by rw[hM.steps,hM.fuel];omega
 have O8:(st.step F).steps=st.steps+1:=rfl
 have nX:(st.step F).ends=st.ends:=rfl
 have M8:(st.step F).ak=st.ak:=rfl
 rw[← O8]at pK
 generalize TC:st.step F=s1 at *
 have fY:GK nc i s1.steps next:=hn.mono (WW _) (by omega)
 have MG:m.step.t=t:=pK.t
 have fe:=hM.room
 -- II goals behind
 have go:∀(e:Int) (d:ar) (s2:aQ) (m2:aC) (b2:Bool) (s3:aQ),MS P t F m2 S s2.steps→SP F ah s2→s1.steps≤s2.steps→i≤e→e≤t.length→cJ t d→d.length=nc→dA t F n ah (.run next e d) s2=some (b2,s3)→gF P t F nc base S ah e m2 ⟨e,d,g⟩ true s2 b2 s3:=by
  intro e d s2 m2 b2 s3 rX PM sm jK s8 hd IJ eX
  exact ih ah _ s2 b2 s3 eX base S m2 _ rX PM hb ⟨rfl,rfl,hg⟩ (fY.mono jK sm) (by show (0:Int)≤e;omega) s8 hd IJ
 have Ri:∀(gb:aG) (hh:Goal) (b2:Bool) (s3:aQ),GR P gb hh→GK nc i s1.steps hh→dA t F n ah (.run hh i c) s1=some (b2,s3)→gF P t F nc base S ah i m.step ⟨i,c,gb⟩ true s1 b2 s3:=by
  intro gb hh b2 s3 Jw VM eX
  exact ih ah _ s1 b2 s3 eX base S m.step _ pK tW hb ⟨rfl,rfl,Jw⟩ VM hi0 e7 hc cK
 -- one move,then II rest
 have mv:∀(y:aA) (al:Bool),(∀rec,bq rec m r ⟨i,c,g⟩=some (m.step,y,al))→gF P t F nc base S ah i m.step y al s1 b st'→gF P t F nc base S ah i m ⟨i,c,.mk 0 r n0 a g⟩ true st b st':=fun y al TF sA =>
  gF.vQ rfl (lg eI ⟨0,TF _⟩) Ee (sA.fi (WW _) nX M8 (by omega))
 have dead:∀(y:aA),b=false→st'=s1→gF P t F nc base S ah i m.step y false s1 b st':=fun y Ha hs=>by
  subst Ha;subst hs
  exact gF.no pK tW.empty tW.ah tW.s1
 have kH:∀rec,bq rec m r ⟨i,c,g⟩=(let m:=m.step
   if re.op=1 then some (m,jx m.t re ⟨i,c,g⟩)
   else if re.op=2 then some (m,⟨i,c,eH re.kids g⟩,true)
   else if re.op=3 then some (m,jw ⟨i,c,g⟩ 1 r 0 0,true)
   else if re.op=5 then match re.kids with
    |[]=>none
    |kid::_=>some (m,jw (jw ⟨i,c,g⟩ 4 r 0 i) 0 (.el kid) 0 0,true)
   else if re.op=6 then match CL m.t re ⟨i,c,g⟩ with
    |none=>none
    |some x=>some (m,x)
   else if re.op=7∨re.op=8 then match re.kids with
    |[]=>none
    |kid::_=>kb rec m re kid ⟨i,c,g⟩
   else if re.op=9 then match re.kids with
    |[]=>none
    |kid::_=>iW rec m ⟨i,c,g⟩ (.mk 0 (.el kid) 0 0 .nil)
   else if re.op=10 then match re.kids with
    |yes::no::_=>if re.n<1∨(c.length:Int)<re.n then none else some (m,jw ⟨i,c,g⟩ 0 (.el (if 0≤(c.getD (re.n-1).toNat (-1,-1)).1 then yes else no)) 0 0,true)
    |_=>none
   else if re.op=11 then (if re.n<0∨5<re.n then none else some (m,⟨i,c,g⟩,bO re.n m.t i))
   else some (m,⟨i,c,g⟩,true)):=by
  intro rec
  unfold bq
  rw[Mn]
  simp only
  rw[if_neg (by omega),if_neg o4,if_neg SB]
  rfl
 simp only at kH
 unfold cQ at h
 by_cases o1:re.op=1
 ·rw[if_pos o1]at h
  simp only[if_pos o1]at kH
  by_cases q:i<t.length∧nn re.set (fX t i)=true
  ·rw[if_pos q]at h
   refine mv ⟨i+1,c,g⟩ true (fun rec=>?_) ((go (i+1) c s1 m.step b st' pK tW (WW _) (by omega) (by omega) hc cK h).fi (by omega) rfl rfl (WW _))
   rw[kH rec]
   unfold jx
   rw[MG,if_pos q]
  ·rw[if_neg q]at h
   cases h
   refine mv .zero false (fun rec=>?_) (dead _ rfl rfl)
   rw[kH rec]
   unfold jx
   rw[MG,if_neg q]
 rw[if_neg o1]at h
 simp only[if_neg o1]at kH
 by_cases o2:re.op=2
 ·rw[if_pos o2]at h
  simp only[if_pos o2]at kH
  exact mv _ true kH (Ri _ _ b st' (GX hg re.kids) (Gw fY re.kids yz) h)
 rw[if_neg o2]at h
 simp only[if_neg o2]at kH
 by_cases o3:re.op=3
 ·rw[if_pos o3]at h
  simp only[if_pos o3]at kH
  refine mv _ true kH ?_
  exact Gy X ih hr hg hv hi0 e7 hc cK re.kids 0 s1 S m.step 0 rfl (v1 (.inl o3)) pK tW (by omega) hb fY h
 rw[if_neg o3]at h
 simp only[if_neg o3]at kH
 by_cases o5:re.op=5
 ·rw[if_pos o5]at h
  simp only[if_pos o5]at kH
  cases hk:re.kids with
  |nil=>rw[hk]at h;cases h
  |cons kid l =>
   rw[hk]at h
   simp only[hk]at kH
   refine mv _ true kH (Ri _ _ b st' (.tree rfl (.cap hr hg)) ?_ h)
   exact⟨fun _=>yz kid (by rw[hk];simp),fun h=>by omega,fun h=>by omega,fun h=>by omega,fun h=>by omega,fun _=>hv,fun h=>by omega,fun h=>by omega,fun h=>by omega,fun _=>⟨o5,hi0,WW _⟩,fY⟩
 rw[if_neg o5]at h
 simp only[if_neg o5]at kH
 by_cases o6:re.op=6
 ·rw[if_pos o6]at h
  simp only[if_pos o6]at kH
  simp only at h
  obtain⟨w1,w2⟩:=v5 (by omega)
  have dr:bm c re.n=c.getD (re.n-1).toNat (-1,-1):=by unfold bm;rw[if_neg (by omega)]
  have EV:=xM hc re.n
  rw[dr]at h EV
  have VR:CL t re ⟨i,c,g⟩=(let x:=c.getD (re.n-1).toNat (-1,-1)
    if x.1<0∨(t.length:Int)-i<x.2-x.1 then some (.zero,false) else if x.2<x.1∨(t.length:Int)<x.2 then none
    else if cW t x.1 i (x.2-x.1).toNat=true then some (⟨i+(x.2-x.1),c,g⟩,true) else some (.zero,false)):=by
   unfold CL
   rw[if_neg (by show ¬(re.n<1∨(c.length:Int)<re.n);omega)]
   simp only
   rw[if_neg]
   have ht:=X.ht
   rcases EV with EV|EV
   ·rw[EV];simp
   ·omega
  rw[MG,VR]at kH
  generalize c.getD (re.n-1).toNat (-1,-1)=x at *
  obtain⟨x1,x2⟩:=x
  simp only at h kH EV
  by_cases q1:x1<0
  ·rw[if_pos q1]at h
   simp only[if_pos (show x1<0∨(t.length:Int)-i<x2-x1 from .inl q1)]at kH
   cases h
   exact mv _ _ kH (dead _ rfl rfl)
  rw[if_neg q1]at h
  by_cases q2:x2<x1∨(t.length:Int)<x2
  ·rw[if_pos q2]at h;cases h
  rw[if_neg q2]at h
  by_cases q3:t.length<i+x2-x1
  ·rw[if_pos q3]at h
   simp only[if_pos (show x1<0∨(t.length:Int)-i<x2-x1 from .inr (by omega))]at kH
   cases h
   exact mv _ _ kH (dead _ rfl rfl)
  rw[if_neg q3]at h
  simp only[if_neg (show ¬(x1<0∨(t.length:Int)-i<x2-x1) by omega),if_neg q2]at kH
  by_cases q4:cW t x1 i (x2-x1).toNat=true
  ·rw[if_pos q4]at h
   simp only[if_pos q4]at kH
   have dC:i+x2-x1=i+(x2-x1):=by omega
   rw[dC]at h
   exact mv _ _ kH ((go (i+(x2-x1)) c s1 m.step b st' pK tW (WW _) (by omega) (by omega) hc cK h).fi (by omega) rfl rfl (WW _))
  ·rw[if_neg q4]at h
   simp only[if_neg q4]at kH
   cases h
   exact mv _ _ kH (dead _ rfl rfl)
 rw[if_neg o6]at h
 simp only[if_neg o6]at kH
 by_cases o7:re.op=7∨re.op=8
 ·rw[if_pos o7]at h
  simp only[if_pos o7]at kH
  cases hk:re.kids with
  |nil=>rw[hk]at h;cases h
  |cons kid l =>
   rw[hk]at h
   simp only[hk]at kH
   simp only at h
   have oY:kid.every (vB nc)=true:=yz kid (by rw[hk];simp)
   -- II look
   cases BV:fS (dA t F n) re.op kid i c s1 with
   |none=>rw[BV]at h;cases h
   |some y =>
    obtain⟨ro,s2⟩:=y
    rw[BV]at h
    simp only at h
    have look:∃x,(∃k,kb (fun m base p=>bh k true m base p true) m.step re kid ⟨i,c,g⟩=some x)∧Cc P t F nc S re.neg ⟨i,c,g⟩ m.step s1 ro s2 x:=by
     unfold fS at BV
     unfold kb
     by_cases p7:re.op=7
     ·rw[if_pos p7]at BV
      have p8:¬re.op=8:=by omega
      simp only[if_neg p8,jR]
      have Lh:bQ (fun k st=>bJ (dA t F n) (.mk 0 kid 0 0 .nil) (i+k) c st) 1 s1=some (ro,s2):=by
       simp only[bQ]
       rw[if_neg (by rw[tW.empty];exact Xe)]
       cases hf:bJ (dA t F n) (.mk 0 kid 0 0 .nil) i c s1 with
       |none=>rw[hf]at BV;cases BV
       |some z =>
        obtain⟨o,s3⟩:=z
        rw[hf]at BV
        rw[show i+((0:Nat):Int)=i by omega,hf]
        cases BV
        cases o with
        |none=>rfl
        |some e=>rfl
      exact uG ih (.tree rfl .nil) hc cK 1 m.step s1 s2 ro (fun q hq=>by omega) (fun q s _=>⟨fun _=>oY,fun h=>by omega,fun h=>by omega,fun h=>by omega,fun h=>by omega,trivial⟩) pK tW.empty tW.s0 tW.s1 Lh
     ·rw[if_neg p7]at BV
      have p8:re.op=8:=by omega
      simp only[if_pos p8,jR]
      have Lh:bQ (fun k st=>bJ (dA t F n) (.mk 0 kid 0 0 (.mk 4 (.mk 0 [] [] 0 0 0 0 false) 0 i .nil)) (0+k) c st) (i.toNat+1) s1=some (ro,s2):=by
       have:(fun (k:Int) (st:aQ)=>bJ (dA t F n) (.mk 0 kid 0 0 (.mk 4 (.mk 0 [] [] 0 0 0 0 false) 0 i .nil)) (0+k) c st)=fun k st=>bJ (dA t F n) (.mk 0 kid 0 0 (.mk 4 (.mk 0 [] [] 0 0 0 0 false) 0 i .nil)) k c st:=by
        funext k st;rw[Int.zero_add]
       rw[this];exact BV
      exact uG ih (.tree rfl (.JD .nil)) hc cK (i.toNat+1) m.step s1 s2 ro (fun q hq=>by omega) (fun q s _=>⟨fun _=>oY,fun h=>by omega,fun h=>by omega,fun h=>by omega,fun h=>by omega,fun h=>absurd rfl h,fun h=>by omega,fun h=>by omega,fun h=>by omega,fun h=>by omega,trivial⟩) pK tW.empty tW.s0 tW.s1 Lh
    obtain⟨x,⟨k,Vj⟩,p1,p2,p3,p4,p5,p6⟩:=look
    obtain⟨m2,p',mQ⟩:=x
    simp only at p1 p2 p6
    refine gF.vQ rfl (lg eI ⟨k,by rw[kH];exact Vj⟩) (Ee.trans p1) (gF.fi (s0:=s2) ?_ (WW _) (by rw[p4,nX]) (by rw[p5,M8]) (by omega))
    have kD:0≤ah→(s2.ends.length:Int)<ah:=by rw[p4];exact tW.ah
    rcases p6 with ⟨e1,e2,rfl⟩|⟨e1,e2,e3,e4⟩
    ·rw[if_pos e1]at h
     cases h
     exact gF.out p2 e2 e1 kD rfl rfl (WW _)
    ·rw[if_neg (by rw[e1];exact Xe)]at h
     have PM:SP F ah s2:=⟨e1,by have:=tW.s0;omega,e3,kD⟩
     rcases e4 with ⟨rfl,rfl,rfl⟩|⟨d,rfl,hd,IJ,e5⟩
     ·by_cases cu:re.neg=true
      ·rw[if_pos cu]at h
       rw[cu]
       exact go i c s2 m2 b st' e2 PM p3 (WW _) e7 hc cK h
      ·rw[if_neg cu]at h
       have cu:re.neg=false:=by simpa using cu
       rw[cu]
       cases h
       exact gF.no e2 e1 kD e3
     ·rcases e5 with ⟨cu,rfl⟩|⟨cu,rfl,rfl⟩
      ·rw[if_pos cu]at h
       cases h
       exact gF.no e2 e1 kD e3
      ·rw[if_neg (by rw[cu];exact Xe)]at h
       exact go i d s2 m2 b st' e2 PM p3 (WW _) e7 hd IJ h
 rw[if_neg o7]at h
 simp only[if_neg o7]at kH
 by_cases o9:re.op=9
 ·rw[if_pos o9]at h
  simp only[if_pos o9]at kH
  cases hk:re.kids with
  |nil=>rw[hk]at h;cases h
  |cons kid l =>
   rw[hk]at h
   simp only[hk]at kH
   simp only at h
   have oY:kid.every (vB nc)=true:=yz kid (by rw[hk];simp)
   cases hf:bJ (dA t F n) (.mk 0 kid 0 0 .nil) i c s1 with
   |none=>rw[hf]at h;cases h
   |some y =>
    obtain⟨o,s2⟩:=y
    rw[hf]at h
    simp only at h
    obtain⟨m2,rr,found,⟨k,jT⟩,k2,k3,k4,k5,k6,k7⟩:=uU ih (gb:=.mk 0 (.el kid) 0 0 .nil) pK tW.empty tW.s0 tW.s1 (.tree rfl .nil) ⟨fun _=>oY,fun h=>by omega,fun h=>by omega,fun h=>by omega,fun h=>by omega,trivial⟩ hi0 e7 hc cK hf
    have SZ:iW (fun m base p=>bh k true m base p true) m.step ⟨i,c,g⟩ (.mk 0 (.el kid) 0 0 .nil)=some (m2,{ rr with todo:=g },found):=by
     unfold iW
     rw[jT]
    refine gF.vQ rfl (lg eI ⟨k,by rw[kH];exact SZ⟩) (Ee.trans k2) (gF.fi (s0:=s2) ?_ (WW _) (by rw[k5,nX]) (by rw[k6,M8]) (by omega))
    have kD:0≤ah→(s2.ends.length:Int)<ah:=by rw[k5];exact tW.ah
    rcases k7 with ⟨j1,j2,j3,⟨rfl,e,d,rfl,rfl,l3,l4,l5,l6⟩|⟨rfl,rfl⟩⟩|⟨j1,j2,rfl,rfl⟩
    ·rw[if_neg (by rw[j1];exact Xe)]at h
     simp only at h
     exact(go e d s2 m2 b st' j2 ⟨j1,by have:=tW.s0;omega,j3,kD⟩ k4 l3 l4 l5 l6 h).fi l3 rfl rfl (WW _)
    ·rw[if_neg (by rw[j1];exact Xe)]at h
     cases h
     exact gF.no j2 j1 kD j3
    ·rw[if_pos j1]at h
     cases h
     exact gF.out k3 j2 j1 kD rfl rfl (WW _)
 rw[if_neg o9]at h
 simp only[if_neg o9]at kH
 by_cases oS:re.op=10
 ·rw[if_pos oS]at h
  simp only[if_pos oS]at kH
  obtain⟨w1,w2⟩:=v5 (by omega)
  have dr:bm c re.n=c.getD (re.n-1).toNat (-1,-1):=by unfold bm;rw[if_neg (by omega)]
  rw[dr]at h
  match hk:re.kids with
  |[]=>rw[hk]at h;cases h
  |[_]=>rw[hk]at h;cases h
  |yes::no::l =>
   rw[hk]at h
   simp only[hk]at kH
   simp only at h
   simp only[if_neg (show ¬(re.n<1∨(c.length:Int)<re.n) by omega)]at kH
   refine mv _ _ kH (Ri _ _ b st' (.tree rfl hg) ⟨fun _=>?_,fun h=>by omega,fun h=>by omega,fun h=>by omega,fun h=>by omega,fY⟩ h)
   split
   ·exact yz yes (by rw[hk];simp)
   ·exact yz no (by rw[hk];simp)
 rw[if_neg oS]at h
 simp only[if_neg oS]at kH
 by_cases rA:re.op=11
 ·rw[if_pos rA]at h
  simp only[if_pos rA]at kH
  obtain⟨w1,w2⟩:=v6 rA
  rw[MG]at kH
  simp only[if_neg (show ¬(re.n<0∨5<re.n) by omega)]at kH
  by_cases q:bO re.n t i=true
  ·rw[if_pos q]at h
   rw[q]at kH
   exact mv _ _ kH (Ri _ _ b st' hg fY h)
  ·rw[if_neg q]at h
   have q:bO re.n t i=false:=by simpa using q
   rw[q]at kH
   cases h
   exact mv _ _ kH (dead _ rfl rfl)
 rw[if_neg rA]at h
 simp only[if_neg rA]at kH
 exact mv _ _ kH (Ri _ _ b st' hg fY h)
end nodes
theorem FP {nc:Int}{re:Re} (h:re.every (vB nc)=true) (m:Int):(re.cq m).every (vB nc)=true:=by
 rw[Re.ck]at h ⊢
 exact⟨h.1,h.2⟩
section all
variable {P:Re}{t:List Int}{F:Int}{nc:Nat} (X:Fx t F nc)
include X
theorem L9 {n:Nat} (ih:OR P t F nc n) {ah:Int}{h:Goal}{i:Int}{c:ar}{st st':aQ}{b:Bool}{base:Nat}{S:List aA}{m:aC}{g:aG} (hM:MS P t F m S st.steps) (hS:SP F ah st) (hb:base≤S.length)
  (hg:GR P g h) (hk:GK nc i st.steps h) (hi0:0≤i) (e7:i≤t.length) (hc:cJ t c) (cK:c.length=nc) (hr:bI t F (dA t F n) ah (.run h i c) st=some (b,st')):gF P t F nc base S ah i m ⟨i,c,g⟩ true st b st':=by
 have ij:=hS.s0
 have gy:=hS.s1
 have OU:c.length≤1000000000:=by rw[cK];exact X.nc
 have cn:∀gb,m.cn ⟨i,c,gb⟩:=fun gb=>hM.cn (p:=⟨i,c,gb⟩) X.ht X.hF ij gy hi0 e7 OU
 simp only[bI]at hr
 rw[if_neg (by omega)]at hr
 have same:∀(task:Task),task.pos=i→task.ak=c→(∀rec,rec=dA t F n→rec ah task st=some (b,st'))→TR P task ⟨i,c,g⟩→TK nc st.steps task→gF P t F nc base S ah i m ⟨i,c,g⟩ true st b st':=by
  intro task hp PG eX htr vf
  have:=ih ah task st b st' (eX _ rfl) base S m _ hM hS hb htr vf (by rw[hp];exact hi0) (by rw[hp];exact e7) (by rw[PG];exact hc) (by rw[PG];exact cK)
  rwa [hp]at this
 cases hg with
 |nil =>
  simp only at hr
  split at hr
  case isFalse=>cases hr
  rename_i hlen
  obtain⟨Bf,Oe⟩:=hlen
  simp only[WX,Xs]at hr
  obtain⟨IK,rfl⟩:=hr
  have zT:((st.ends++[i]).length:Int)=st.ends.length+1:=by simp
  cases b with
  |true =>
   simp only[W7,decide_eq_true_eq]at IK
   have:=hS.ah IK.1
   exact⟨[(i,c)],m,rfl,rfl,fun r hr=>by rw[List.mem_singleton.1 hr];exact⟨WW _,e7,hc,cK⟩,.refl m,WW _,.inr (.inl ⟨rfl,hS.empty,IK.1,by simp only[zT];omega,gy,[],[],i,c,by simpa using hM,rfl,.refl _ _ _⟩)⟩
  |false =>
   refine⟨[(i,c)],m,rfl,rfl,fun r hr=>by rw[List.mem_singleton.1 hr];exact⟨WW _,e7,hc,cK⟩,.refl m,WW _,.inl ⟨rfl,hS.empty,fun hm=>?_,hM,gy,.zero,.emit hM.aK (.refl _ _ _)⟩⟩
   have:=hS.ah hm
   simp only[zT]
   by_cases hle:ah≤(st.ends.length:Int)+1
   ·rw[decide_eq_true hm,decide_eq_true hle]at IK;cases IK
   ·omega
 |@tree r re n0 a k f g0 h0 vG BO =>
  simp only at hr
  rw[if_neg (by decide),if_neg (by decide),if_neg (by decide),if_neg (by decide)]at hr
  obtain⟨k1,k2,k3,k4,k5,k6⟩:=hk
  exact same (.node (.mk 0 re k f h0) i c) rfl rfl (fun rec dn=>by rw[dn];exact hr) ⟨rfl,rfl,r,n0,a,g0,rfl,vG,BO⟩ ⟨k1 (by decide),k6⟩
 |@round r re pC n0 a f g0 h0 vG O1 BO =>
  simp only at hr
  rw[if_pos trivial]at hr
  obtain⟨k1,k2,k3,k4,k5,k6⟩:=hk
  exact same (.rep (.mk 1 pC n0 f h0) i c) rfl rfl (fun rec dn=>by rw[dn];exact hr) ⟨rfl,rfl,.inr ⟨(k2 (.inl rfl)).2.1,r,re,a,g0,rfl,vG,O1,BO⟩⟩ ⟨k1 (by decide),(k2 (.inl rfl)).1,(k2 (.inl rfl)).2.2,k3 rfl,k6⟩
 |@more r re pC n0 a f g0 h0 vG O1 nj BO =>
  simp only at hr
  rw[if_neg (by decide),if_pos trivial,if_neg (by omega)]at hr
  split at hr
  ·cases hr
  obtain⟨k1,k2,k3,k4,k5,k6⟩:=hk
  have:=k4 rfl
  obtain⟨l1,l2,l3⟩:=k2 (.inr rfl)
  exact same (.run (.mk 1 pC (n0+1) 0 h0) i c) rfl rfl (fun rec dn=>by rw[dn];exact hr) ⟨rfl,rfl,.round vG O1 BO⟩ ⟨fun _=>k1 (by decide),fun _=>⟨l1,l2,by omega⟩,fun _=>by omega,fun h=>by omega,fun h=>by omega,k6⟩
 |@dv r re pC n0 a g0 h0 vG O1 nj BO =>
  simp only at hr
  rw[if_neg (by decide),if_pos trivial]at hr
  obtain⟨k1,k2,k3,k4,k5,k6⟩:=hk
  have:=k4 rfl
  have hF:=X.hF
  obtain⟨l1,l2,l3⟩:=k2 (.inr rfl)
  have oX:=HZ (cn (.mk 3 r (n0+1) a g0)) (by omega) (by omega)
  by_cases q:i=a
  ·rw[if_pos ⟨nj,q⟩]at hr
   rw[if_pos q]at oX
   cases hr
   exact gF.vQ rfl oX (.refl m) (gF.no hM hS.empty hS.ah gy)
  ·rw[if_neg (by omega)]at hr
   rw[if_neg q]at oX
   split at hr
   ·cases hr
   refine gF.vQ rfl oX (.refl m) ?_
   exact ih ah _ st b st' hr base S m _ hM hS hb ⟨rfl,rfl,.round vG O1 BO⟩ ⟨fun _=>k1 (by decide),fun _=>⟨l1,l2,by omega⟩,fun _=>by omega,fun h=>by omega,fun h=>by omega,k6⟩ hi0 e7 hc cK
 |@cap r re a k g0 h0 vG BO =>
  simp only at hr
  rw[if_neg (by decide),if_neg (by decide),if_pos trivial,if_neg (by omega)]at hr
  obtain⟨k1,k2,k3,k4,k5,k6⟩:=hk
  obtain⟨o5,f0,f1⟩:=k5 rfl
  obtain⟨⟨_,_,_,_,v5,_,_⟩,_⟩:=uC (k1 (by decide))
  obtain⟨w1,w2⟩:=v5 (.inl o5)
  have hw:ku c re.n a i=c.set (re.n-1).toNat (a,i):=by unfold ku;rw[if_pos ⟨w1,by omega⟩]
  obtain⟨c1,c2⟩:=cJ.with (n:=re.n) hc f0 f1 e7
  rw[hw]at hr c1 c2
  refine gF.vQ rfl (L7 (cn _) (ug hM vG) w1 (by omega)) (.refl m) ?_
  exact ih ah _ st b st' hr base S m _ hM hS hb ⟨rfl,rfl,BO⟩ k6 hi0 e7 c1 (by show (c.set _ _).length=nc;rw[c2];exact cK)
 |@JD r re a k g0 h0 BO =>
  simp only at hr
  rw[if_neg (by decide),if_neg (by decide),if_neg (by decide),if_pos trivial]at hr
  obtain⟨k1,k2,k3,k4,k5,k6⟩:=hk
  have oX:=ES (r:=r) (g:=g0) (a:=a) (cn _)
  by_cases q:i=a
  ·rw[if_pos q]at hr
   rw[decide_eq_true q]at oX
   refine gF.vQ rfl oX (.refl m) ?_
   exact ih ah _ st b st' hr base S m _ hM hS hb ⟨rfl,rfl,BO⟩ k6 hi0 e7 hc cK
  ·rw[if_neg q]at hr
   rw[decide_eq_false q]at oX
   cases hr
   exact gF.vQ rfl oX (.refl m) (gF.no hM hS.empty hS.ah gy)
theorem MF {n:Nat} (ih:OR P t F nc n) {ah:Int}{kind:Int}{re:Re}{k cT:Int}{next:Goal}{i:Int}{c:ar}{st st':aQ}{b:Bool}{base:Nat}{S:List aA}{m:aC}{p:aA} (hM:MS P t F m S st.steps) (hS:SP F ah st) (hb:base≤S.length)
  (htr:TR P (.rep (.mk kind re k cT next) i c) p) (vf:TK nc st.steps (.rep (.mk kind re k cT next) i c)) (hi0:0≤i) (e7:i≤t.length) (hc:cJ t c) (cK:c.length=nc) (hr:jA F (dA t F n) ah re k next i c st=some (b,st')):gF P t F nc base S ah i m p true st b st':=by
 obtain⟨pa,pc,todo⟩:=p
 obtain⟨rfl,rfl,htr⟩:=htr
 obtain⟨v,o4,k0,k1,hk⟩:=vf
 have ij:=hS.s0
 have gy:=hS.s1
 rcases htr with ⟨hm,r,n0,a,g,NQ,vG,BO⟩|⟨hm,r,nb,a,g,NQ,vG,O1,BO⟩
 ·simp only at NQ
  subst NQ
  unfold jA at hr
  rw[if_pos hm]at hr
  have eI:=hM.cn (p:=⟨pa,pc,.mk 0 r n0 a g⟩) X.ht X.hF ij gy hi0 e7 (by show pc.length≤_;rw[cK];exact X.nc)
  have Ty:(re.cq 0).mode≠2:=by simp [Re.cq,Re.mode]
  cases hf:bJ (dA t F n) (.mk 1 (re.cq 0) 0 0 .nil) pa pc st with
  |none=>rw[hf]at hr;cases hr
  |some y =>
   obtain⟨o,s2⟩:=y
   rw[hf]at hr
   simp only at hr
   obtain⟨m2,rr,found,⟨kk,jT⟩,k2,k3,k4,k5,k6,k7⟩:=uU ih (gb:=.mk 2 r 0 0 .nil) hM hS.empty ij gy (.round vG (.inr ⟨hm,rfl⟩) .nil) ⟨fun _=>FP v 0,fun _=>⟨o4,Ty,WW _⟩,fun _=>ij,fun h=>by omega,fun h=>by omega,trivial⟩ hi0 e7 hc cK hf
   have SZ:iW (fun m base p=>bh kk true m base p true) m ⟨pa,pc,g⟩ (.mk 2 r 0 0 .nil)=some (m2,{ rr with todo:=g },found):=by
    unfold iW
    rw[jT]
   obtain⟨⟨v1,v2,v3,v4,v5,v6,_⟩,yz⟩:=uC v
   refine gF.vQ rfl (lg eI (y:=(m2,{ rr with todo:=g },found)) ⟨kk,?_⟩) k2 (gF.fi (s0:=s2) ?_ (WW _) k5 k6 k4)
   ·unfold bq
    rw[ug hM vG]
    simp only
    rw[if_neg (by omega),if_pos o4,if_pos hm]
    exact SZ
   have kD:0≤ah→(s2.ends.length:Int)<ah:=by rw[k5];exact hS.ah
   rcases k7 with ⟨j1,j2,j3,⟨rfl,e,d,rfl,rfl,l3,l4,l5,l6⟩|⟨rfl,rfl⟩⟩|⟨j1,j2,rfl,rfl⟩
   ·simp only at hr
    have:=ih ah _ s2 b st' hr base S m2 ⟨e,d,g⟩ j2 ⟨j1,by omega,j3,kD⟩ hb ⟨rfl,rfl,BO⟩ (hk.mono l3 k4) (by show (0:Int)≤e;have:(0:Int)≤pa:=hi0;omega) l4 l5 l6
    exact this.fi l3 rfl rfl (WW _)
   ·simp only at hr
    cases hr
    rw[j1]
    exact gF.no j2 j1 kD j3
   ·simp only at hr
    cases hr
    rw[j1]
    exact gF.out k3 j2 j1 kD rfl rfl (WW _)
 ·simp only at NQ
  subst NQ
  exact LX X ih hM hS hb vG O1 BO v o4 hm k0 k1 hk hi0 e7 hc cK hr
theorem Jv {n:Nat} (ih:OR P t F nc n) {ah:Int}{kind:Int}{re:Re}{k cT:Int}{next:Goal}{i:Int}{c:ar}{st st':aQ}{b:Bool}{base:Nat}{S:List aA}{m:aC}{p:aA} (hM:MS P t F m S st.steps) (hS:SP F ah st) (hb:base≤S.length)
  (htr:TR P (.node (.mk kind re k cT next) i c) p) (vf:TK nc st.steps (.node (.mk kind re k cT next) i c)) (hi0:0≤i) (e7:i≤t.length) (hc:cJ t c) (cK:c.length=nc) (hr:bI t F (dA t F n) ah (.node (.mk kind re k cT next) i c) st=some (b,st')):gF P t F nc base S ah i m p true st b st':=by
 obtain⟨pa,pc,todo⟩:=p
 obtain⟨rfl,rfl,r,n0,a,g,NQ,vG,BO⟩:=htr
 simp only at NQ
 subst NQ
 obtain⟨v,hk⟩:=vf
 have ij:=hS.s0
 have gy:=hS.s1
 obtain⟨⟨v1,v2,v3,v4,v5,v6,_⟩,yz⟩:=uC v
 have hF:=X.hF
 simp only[bI]at hr
 have hi0:0≤pa:=hi0
 have e7:pa≤t.length:=e7
 have hc:cJ t pc:=hc
 have cK:pc.length=nc:=cK
 rw[if_neg (by omega)]at hr
 by_cases o4:re.op=4
 ·rw[if_pos o4]at hr
  by_cases hm:re.mode=2
  ·exact ih ah _ st b st' hr base S m _ hM hS hb ⟨rfl,rfl,.inl ⟨hm,r,n0,a,g,rfl,vG,BO⟩⟩ ⟨v,o4,WW _,ij,hk⟩ hi0 e7 hc cK
  ·have eI:=hM.cn (p:=⟨pa,pc,.mk 0 r n0 a g⟩) X.ht X.hF ij gy hi0 e7 (by show pc.length≤_;rw[cK];exact X.nc)
   refine gF.vQ rfl (lg eI (y:=(m,⟨pa,pc,.mk 2 r 0 0 g⟩,true)) ⟨0,?_⟩) (.refl m) ?_
   ·unfold bq
    rw[ug hM vG]
    simp only
    rw[if_neg (by omega),if_pos o4,if_neg hm]
    rfl
   ·exact ih ah _ st b st' hr base S m _ hM hS hb ⟨rfl,rfl,.inr ⟨hm,r,re,0,g,rfl,vG,.inl ⟨rfl,hm⟩,BO⟩⟩ ⟨v,o4,WW _,ij,hk⟩ hi0 e7 hc cK
 ·rw[if_neg o4,if_neg (by rw[cK];have:=X.nc;omega),if_neg (by omega)]at hr
  exact Je X ih hM hS hb vG BO v o4 hk hi0 e7 hc cK hr
theorem G3:∀n,OR P t F nc n
 |0=>fun _ _ _ _ _ h=>by cases h
 |n+1=>fun ah task st b st' h base S m p hM hS hb htr vf hi0 e7 hc cK=>by
  have ih:=G3 n
  have h:bI t F (dA t F n) ah task st=some (b,st'):=h
  cases task with
  |run g i c =>
   obtain⟨pa,pc,todo⟩:=p
   obtain⟨rfl,rfl,hg⟩:=htr
   exact L9 X ih hM hS hb hg vf hi0 e7 hc cK h
  |rep g i c =>
   cases g with
   |nil=>exact htr.elim
   |mk kind re k cT next =>
    refine MF X ih hM hS hb htr vf hi0 e7 hc cK ?_
    simp only[bI]at h
    rw[if_neg (by have h1:0≤i:=hi0;have h2:i≤t.length:=e7;omega)]at h
    exact h
  |node g i c =>
   cases g with
   |nil=>exact htr.elim
   |mk kind re k cT next=>exact Jv X ih hM hS hb htr vf hi0 e7 hc cK h
end all
end Go.Proofs.YtmihcpdhcillaaaGreat
