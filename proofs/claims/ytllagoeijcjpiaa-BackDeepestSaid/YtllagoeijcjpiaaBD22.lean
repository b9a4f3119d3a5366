/- A part of the proof (G31 G42 G43 G44 G45 G46 G47 G48). -/
import Derived.Test.YtllagoeijcjpiaaBD6
import Derived.Test.YtllagoeijcjpiaaBD21
set_option linter.unusedSimpArgs false
set_option linter.unusedVariables false
set_option maxRecDepth 100000
set_option maxHeartbeats 80000000
namespace Go.Proofs.Ytllagoeijcjpiaa
open Go.VL Go.Proofs.Try
structure aB.Fr (m m':aB):Prop where
 p:m'.p=m.p
 t:m'.t=m.t
 bq:m'.bq=m.bq
 own:m'.own=m.own
 ew:m'.ew=m.ew
 start:m'.start=m.start
 fuel:m'.fuel=m.fuel
 ready:m'.ready=m.ready
theorem aB.Fr.refl (m:aB):m.Fr m:=⟨rfl,rfl,rfl,rfl,rfl,rfl,rfl,rfl⟩
theorem aB.Fr.trans {m m1 m2:aB} (h:m.Fr m1) (k:m1.Fr m2):m.Fr m2 :=
 ⟨k.p.trans h.p,k.t.trans h.t,k.bq.trans h.bq,k.own.trans h.own,k.ew.trans h.ew,k.start.trans h.start,k.fuel.trans h.fuel,k.ready.trans h.ready⟩
theorem aB.dI (m:aB):m.Fr m.step:=by
 unfold aB.step;split <;> exact⟨rfl,rfl,rfl,rfl,rfl,rfl,rfl,rfl⟩
theorem aB.wx (m:aB) (p:ao):m.Fr (m.push p):=⟨rfl,rfl,rfl,rfl,rfl,rfl,rfl,rfl⟩
theorem aB.lD (m:aB) (n:Nat):m.Fr (m.clear n):=⟨rfl,rfl,rfl,rfl,rfl,rfl,rfl,rfl⟩
theorem aB.E5 (m:aB):m.Fr m.pop:=⟨rfl,rfl,rfl,rfl,rfl,rfl,rfl,rfl⟩
theorem nF {rec:Rec} (h:∀m base p x,rec m base p=some x→m.Fr x.1) {m:aB}{p:ao}{x:Rs} (hx:bY rec m p=some x):m.Fr x.1:=by
 unfold bY at hx
 split at hx
 ·cases hx
 ·rename_i m1 p1 f h1
  split at hx
  ·cases hx
  ·cases hx
   exact(h _ _ _ _ h1).trans (aB.lD _ _)
theorem CZ {rec:Rec} (h:∀m base p x,rec m base p=some x→m.Fr x.1) {m:aB}{p:ao}{part:aI}{x:Rs} (hx:fp rec m p part=some x):m.Fr x.1:=by
 unfold fp at hx
 split at hx
 ·cases hx
 ·rename_i m1 p1 f h1
  cases hx
  have:=nF h h1
  exact this
theorem FR {f:Int→aB→Option Rs} (h:∀k m x,f k m=some x→m.Fr x.1) {neg:Bool}{p:ao}{last:Int}:∀(j:Nat) (m:aB) (x:Rs),dz f neg p last j m=some x→m.Fr x.1
 |0,m,x,hx=>by simp only[dz]at hx;cases hx;exact .refl _
 |j+1,m,x,hx=>by
  simp only[dz]at hx
  split at hx
  ·cases hx;exact .refl _
  ·split at hx
   ·cases hx
   ·rename_i m1 r found h1
    split at hx
    ·split at hx
     ·cases hx;have:=h _ _ _ h1;exact this
     ·cases hx;have:=h _ _ _ h1;exact this
    ·exact(h _ _ _ h1).trans (FR h j m1 x hx)
theorem JQ {rec:Rec} (h:∀m base p x,rec m base p=some x→m.Fr x.1) {m:aB}{r:aG}{p:ao}{x:Rs} (hx:bj rec m r p=some x):m.Fr x.1:=by
 have hs:=aB.dI m
 unfold bj at hx
 split at hx
 ·cases hx
 rename_i re Mq
 simp only at hx
 by_cases c0:1000000000<re.set.length∨1000000000<re.kids.length
 ·rw[if_pos c0]at hx;cases hx
 rw[if_neg c0]at hx
 by_cases c4:re.op=4
 ·rw[if_pos c4]at hx
  split at hx
  ·exact CZ h hx
  ·cases hx;exact .refl _
 rw[if_neg c4]at hx
 by_cases cf:m.fuel≤m.steps
 ·rw[if_pos cf]at hx;cases hx;exact hs
 rw[if_neg cf]at hx
 by_cases c1:re.op=1
 ·rw[if_pos c1]at hx;cases hx;exact hs
 rw[if_neg c1]at hx
 by_cases c2:re.op=2
 ·rw[if_pos c2]at hx;cases hx;exact hs
 rw[if_neg c2]at hx
 by_cases c3:re.op=3
 ·rw[if_pos c3]at hx;cases hx;exact hs
 rw[if_neg c3]at hx
 by_cases c5:re.op=5
 ·rw[if_pos c5]at hx
  split at hx
  ·cases hx
  ·cases hx;exact hs
 rw[if_neg c5]at hx
 by_cases c6:re.op=6
 ·rw[if_pos c6]at hx
  split at hx
  ·cases hx
  ·cases hx;exact hs
 rw[if_neg c6]at hx
 by_cases c7:re.op=7∨re.op=8
 ·rw[if_pos c7]at hx
  split at hx
  ·cases hx
  ·unfold eX at hx
   exact hs.trans (FR (fun _ _ _ h1=>nF h h1) _ _ _ hx)
 rw[if_neg c7]at hx
 by_cases c9:re.op=9
 ·rw[if_pos c9]at hx
  split at hx
  ·cases hx
  ·exact hs.trans (CZ h hx)
 rw[if_neg c9]at hx
 by_cases PK:re.op=10
 ·rw[if_pos PK]at hx
  split at hx
  ·split at hx
   ·cases hx
   ·cases hx;exact hs
  ·cases hx
 rw[if_neg PK]at hx
 split at hx
 ·split at hx
  ·cases hx
  ·cases hx;exact hs
 ·cases hx;exact hs
theorem Ji {m:aB}{r:aG}{n:Int}{p:ao}{x:Rs} (hx:fG m r n p=some x):m.Fr x.1:=by
 have hs:=aB.dI m
 unfold fG at hx
 simp only at hx
 repeat' (first
  |(cases hx;done)
  |(cases hx;exact hs)
  |(cases hx;exact hs.trans (aB.wx _ _))
  |split at hx)
theorem IK {rec:Rec} (h:∀m base p x,rec m base p=some x→m.Fr x.1) {m:aB}{p:ao}{x:Rs} (hx:fY rec m p=some x):m.Fr x.1:=by
 unfold fY at hx
 split at hx
 ·cases hx
 split at hx
 ·cases hx
 simp only at hx
 repeat' (first
  |(cases hx;done)
  |(cases hx;exact .refl _)
  |exact JQ h hx
  |exact Ji hx
  |(cases hx;split;exact aB.wx _ _;exact .refl _)
  |split at hx)
theorem iM:∀(k:Nat) (out:Bool) (m:aB) (base:Nat) (p:ao) (alive:Bool) (x:Rs),aQ k out m base p alive=some x→m.Fr x.1
 |0,_,_,_,_,_,_,hx=>by cases hx
 |k+1,out,m,base,p,alive,x,hx=>by
  simp only[aQ]at hx
  split at hx
  ·cases hx;exact .refl _
  split at hx
  ·split at hx
   ·cases hx
   ·rename_i m1 p1 a1 h1
    exact(IK (fun m base p x h=>iM k true m base p true x h) h1).trans (iM k false m1 base p1 a1 x hx)
  split at hx
  ·cases hx;exact .refl _
  split at hx
  ·cases hx;exact .refl _
  split at hx
  ·cases hx
  split at hx
  ·cases hx
  ·cases hx
  ·rename_i last _
   exact m.E5.trans (iM k true m.pop base last true x hx)
section mono
variable {rec rec':Rec} (h:∀m base p x,rec m base p=some x→rec' m base p=some x)
include h
theorem jh {m:aB}{p:ao}{x:Rs} (hx:bY rec m p=some x):bY rec' m p=some x:=by
 unfold bY at hx ⊢
 cases hr:rec m m.top p with
 |none=>rw[hr]at hx;cases hx
 |some y=>rw[hr]at hx;rw[h _ _ _ _ hr];exact hx
theorem ve {m:aB}{p:ao}{part:aI}{x:Rs} (hx:fp rec m p part=some x):fp rec' m p part=some x:=by
 unfold fp at hx ⊢
 cases hr:bY rec m { p with todo:=part } with
 |none=>rw[hr]at hx;cases hx
 |some y=>rw[hr]at hx;rw[jh h hr];exact hx
omit h in
theorem nT {f f':Int→aB→Option Rs} (hf:∀k m x,f k m=some x→f' k m=some x) {neg:Bool}{p:ao}{last:Int}:∀(j:Nat) (m:aB) (x:Rs),dz f neg p last j m=some x→dz f' neg p last j m=some x
 |0,_,_,hx=>hx
 |j+1,m,x,hx=>by
  simp only[dz]at hx ⊢
  by_cases hs:m.aW=true
  ·rw[if_pos hs]at hx ⊢;exact hx
  ·rw[if_neg hs]at hx ⊢
   cases hr:f (last+j) m with
   |none=>rw[hr]at hx;cases hx
   |some y =>
    rw[hr]at hx
    rw[hf _ _ _ hr]
    obtain⟨m1,r,found⟩:=y
    simp only at hx ⊢
    cases found with
    |true=>exact hx
    |false =>
     simp only[Vw,if_false]at hx ⊢
     exact nT hf j m1 x hx
theorem Cx {m:aB}{r:aG}{p:ao}{x:Rs} (hx:bj rec m r p=some x):bj rec' m r p=some x:=by
 unfold bj at hx ⊢
 cases hl:m.lit r with
 |none=>rw[hl]at hx;cases hx
 |some re =>
  rw[hl]at hx
  simp only at hx ⊢
  by_cases c0:1000000000<re.set.length∨1000000000<re.kids.length
  ·rw[if_pos c0]at hx;cases hx
  rw[if_neg c0]at hx ⊢
  by_cases c4:re.op=4
  ·rw[if_pos c4]at hx ⊢
   by_cases cm:re.mode=2
   ·rw[if_pos cm]at hx ⊢;exact ve h hx
   ·rw[if_neg cm]at hx ⊢;exact hx
  rw[if_neg c4]at hx ⊢
  by_cases cf:m.fuel≤m.steps
  ·rw[if_pos cf]at hx ⊢;exact hx
  rw[if_neg cf]at hx ⊢
  by_cases c1:re.op=1
  ·rw[if_pos c1]at hx ⊢;exact hx
  rw[if_neg c1]at hx ⊢
  by_cases c2:re.op=2
  ·rw[if_pos c2]at hx ⊢;exact hx
  rw[if_neg c2]at hx ⊢
  by_cases c3:re.op=3
  ·rw[if_pos c3]at hx ⊢;exact hx
  rw[if_neg c3]at hx ⊢
  by_cases c5:re.op=5
  ·rw[if_pos c5]at hx ⊢;exact hx
  rw[if_neg c5]at hx ⊢
  by_cases c6:re.op=6
  ·rw[if_pos c6]at hx ⊢;exact hx
  rw[if_neg c6]at hx ⊢
  by_cases c7:re.op=7∨re.op=8
  ·rw[if_pos c7]at hx ⊢
   cases hk:re.kids with
   |nil=>rw[hk]at hx;cases hx
   |cons kid l =>
    rw[hk]at hx
    simp only at hx ⊢
    unfold eX at hx ⊢
    exact nT (fun k m x hx=>jh h hx) _ _ _ hx
  rw[if_neg c7]at hx ⊢
  by_cases c9:re.op=9
  ·rw[if_pos c9]at hx ⊢
   cases hk:re.kids with
   |nil=>rw[hk]at hx;cases hx
   |cons kid l =>
    rw[hk]at hx
    exact ve h hx
  rw[if_neg c9]at hx ⊢
  exact hx
theorem Aj {m:aB}{p:ao}{x:Rs} (hx:fY rec m p=some x):fY rec' m p=some x:=by
 unfold fY at hx ⊢
 by_cases c:m.cX p
 ·rw[if_neg (by simpa using c)]at hx ⊢
  obtain⟨pa,pc,todo⟩:=p
  cases todo with
  |nil=>cases hx
  |mk kind r n at_ next =>
   simp only at hx ⊢
   by_cases k0:kind=0
   ·rw[if_pos k0]at hx ⊢;exact Cx h hx
   ·rw[if_neg k0]at hx ⊢;exact hx
 ·rw[if_pos (by simpa using c)]at hx;cases hx
end mono
theorem oC:∀(k:Nat) (out:Bool) (m:aB) (base:Nat) (p:ao) (alive:Bool) (x:Rs),aQ k out m base p alive=some x→aQ (k+1) out m base p alive=some x
 |0,_,_,_,_,_,_,hx=>by cases hx
 |k+1,out,m,base,p,alive,x,hx=>by
  rw[aQ.eq_2]at hx ⊢
  by_cases c1:out=true∧m.aW=true
  ·rw[if_pos c1]at hx ⊢;exact hx
  rw[if_neg c1]at hx ⊢
  by_cases c2:alive=true∧p.goals=true
  ·rw[if_pos c2]at hx ⊢
   cases hr:fY (fun m base p=>aQ k true m base p true) m p with
   |none=>rw[hr]at hx;cases hx
   |some y =>
    rw[hr]at hx
    rw[Aj (rec':=fun m base p=>aQ (k+1) true m base p true) (fun m base p x hx=>oC k true m base p true x hx) hr]
    obtain⟨m1,p1,a1⟩:=y
    exact oC k false m1 base p1 a1 x hx
  rw[if_neg c2]at hx ⊢
  by_cases c3:alive=true
  ·rw[if_pos c3]at hx ⊢;exact hx
  rw[if_neg c3]at hx ⊢
  by_cases c4:m.top=base
  ·rw[if_pos c4]at hx ⊢;exact hx
  rw[if_neg c4]at hx ⊢
  by_cases c5:m.top=0∨m.dY.length<m.top∨1200000000000<m.top
  ·rw[if_pos c5]at hx;cases hx
  rw[if_neg c5]at hx ⊢
  cases hl:m.dY[m.top-1]? with
  |none=>rw[hl]at hx;cases hx
  |some o =>
   rw[hl]at hx
   cases o with
   |none=>cases hx
   |some last=>exact oC k true m.pop base last true x hx
theorem hU {k k':Nat} (hk:k≤k') {out:Bool}{m:aB}{base:Nat}{p:ao}{alive:Bool}{x:Rs} (hx:aQ k out m base p alive=some x):aQ k' out m base p alive=some x:=by
 induction hk with
 |refl=>exact hx
 |step _ ih=>exact oC _ _ _ _ _ _ _ ih
theorem G4 {k k':Nat}{out:Bool}{m:aB}{base:Nat}{p:ao}{alive:Bool}{x x':Rs} (h1:aQ k out m base p alive=some x) (h2:aQ k' out m base p alive=some x'):x=x':=by
 have e1:=hU (Ws k k') h1
 have e2:=hU (Wp k k') h2
 rw[e1]at e2
 exact Option.some.inj e2
def Ev (m:aB) (base:Nat) (p:ao) (alive:Bool) (x:Rs):Prop:=∃k,aQ k false m base p alive=some x
def Lc (m:aB) (p:ao) (x:Rs):Prop:=∃k,fY (fun m base p=>aQ k true m base p true) m p=some x
theorem JU {m:aB}{base:Nat}{p:ao}{y:Rs}{x:Rs} (hg:p.goals=true) (ha:Lc m p y) (he:Ev y.1 base y.2.1 y.2.2 x):Ev m base p true x:=by
 obtain⟨k1,h1⟩:=ha
 obtain⟨k2,h2⟩:=he
 refine⟨max k1 k2+1,?_⟩
 simp only[aQ]
 rw[if_neg (fun h=>by cases h.1),if_pos ⟨trivial,hg⟩,Aj (rec':=fun m base p=>aQ (max k1 k2) true m base p true) (fun m base p x hx=>hU (Ws _ _) hx) h1]
 exact hU (Wp _ _) h2
theorem nH {m:aB}{base:Nat}{p:ao} (hg:p.goals=false):Ev m base p true (m,p,!m.aW):=by
 refine⟨1,?_⟩
 simp only[aQ]
 rw[if_neg (fun h=>by cases h.1),if_neg (fun h=>by rw[hg]at h;cases h.2),if_pos trivial]
theorem jv {m:aB}{base:Nat}{p:ao} (hb:m.top=base):Ev m base p false (m,.zero,false):=by
 refine⟨1,?_⟩
 simp only[aQ]
 rw[if_neg (fun h=>by cases h.1),if_neg (fun h=>by cases h.1),if_neg (fun h=>by cases h),if_pos hb]
def oo (m:aB) (S:List ao):Prop:=m.dY.take m.top=S.map some∧m.top=S.length∧m.top≤1200000000000
theorem oo.len {m:aB}{S:List ao} (h:oo m S):m.top≤m.dY.length:=by
 have:=congrArg List.length h.1
 rw[V3,Vv,← h.2.1]at this
 omega
theorem oo.last {m:aB}{S:List ao}{q:ao} (h:oo m (S++[q])):m.dY[m.top-1]?=some (some q)∧oo m.pop S:=by
 have hl:=h.len
 have ht:m.top=S.length+1:=by rw[h.2.1];simp
 have hg:(m.dY.take m.top)[m.top-1]?=some (some q):=by
  rw[h.1,ht];simp
 refine⟨by rw[VW]at hg;rwa [if_pos (by omega)]at hg,?_,?_,?_⟩
 ·show (m.dY.set (m.top-1) none).take (m.top-1)=S.map some
  rw[List.take_set_of_le (VA _)]
  have:m.dY.take (m.top-1)=(m.dY.take m.top).take (m.top-1):=by rw[List.take_take];congr 1;omega
  rw[this,h.1,ht];simp
 ·show m.top-1=S.length;omega
 ·show m.top-1≤1200000000000;have:=h.2.2;omega
theorem oo.push {m:aB}{S:List ao} (h:oo m S) (q:ao) (hl:S.length+1≤1200000000000):oo (m.push q) (S++[q]):=by
 refine⟨?_,?_,?_⟩
 ·show (m.dY.take m.top++[some q]).take (m.top+1)=_
  rw[h.1,VZ (by rw[VN,Vv,h.2.1];simp)]
  simp
 ·show m.top+1=_;rw[h.2.1];simp
 ·show m.top+1≤_;rw[h.2.1];exact hl
theorem oo.clear {m:aB}{S S':List ao} (h:oo m (S++S')):oo (m.clear S.length) S:=by
 have hl:=h.len
 have ht:=h.2.1
 rw[VN]at ht
 refine⟨?_,rfl,?_⟩
 ·show (m.dY.take S.length++(List.replicate (m.top-S.length) none++m.dY.drop m.top)).take S.length=_
  rw[List.take_append_of_le_length (by rw[V3];omega),List.take_take,Nat.min_self]
  have:m.dY.take S.length=(m.dY.take m.top).take S.length:=by rw[List.take_take];congr 1;omega
  rw[this,h.1];simp
 ·show S.length≤_;have:=h.2.2;omega
theorem KQ {m:aB}{base:Nat}{p q:ao}{S:List ao}{x:Rs} (hS:oo m (S++[q])) (hb:base≤S.length) (hs:m.aW=false) (he:Ev m.pop base q true x):Ev m base p false x:=by
 obtain⟨k,hk⟩:=he
 have hl:=hS.len
 have ht:m.top=S.length+1:=by rw[hS.2.1];simp
 refine⟨k+1,?_⟩
 simp only[aQ]
 rw[if_neg (fun h=>by cases h.1),if_neg (fun h=>by cases h.1),if_neg (fun h=>by cases h),if_neg (by omega),if_neg (by have:=hS.2.2;omega),hS.last.1]
 simp only
 have:aQ k true m.pop base q true=aQ k false m.pop base q true:=by
  cases k with
  |zero=>rfl
  |succ k =>
   rw[aQ.eq_2,aQ.eq_2]
   rw[if_neg (show ¬(true=true∧m.pop.aW=true) from fun h=>by have h2:=h.2;rw[show m.pop.aW=false from hs]at h2;cases h2),if_neg (show ¬(false=true∧m.pop.aW=true) from fun h=>by cases h.1)]
 rw[this];exact hk
inductive kH (base:Nat):aB→ao→Bool→List (Int×aq)→aB→ao→Bool→Prop where
 |refl (m:aB) (p:ao) (al:Bool):kH base m p al [] m p al
 |kA {m:aB}{p:ao}{m1:aB}{p1:ao}{Ms:Bool}{R:List (Int×aq)}{m':aB}{p':ao}{G3:Bool} (hg:p.goals=true) (ha:Lc m p (m1,p1,Ms)) (h:kH base m1 p1 Ms R m' p' G3):kH base m p true R m' p' G3
 |pop {m:aB}{p q:ao}{S:List ao}{R:List (Int×aq)}{m':aB}{p':ao}{G3:Bool} (hS:oo m (S++[q])) (hb:base≤S.length) (hs:m.aW=false) (h:kH base m.pop q true R m' p' G3):kH base m p false R m' p' G3
 |emit {m:aB}{i:Int}{c:aq}{R:List (Int×aq)}{m':aB}{p':ao}{G3:Bool} (hs:m.aW=false) (h:kH base m .zero false R m' p' G3):kH base m ⟨i,c,.nil⟩ true ((i,c)::R) m' p' G3
theorem kH.trans {base:Nat}{m m1 m2:aB}{p p1 p2:ao}{a a1 a2:Bool}{R R':List (Int×aq)} (h:kH base m p a R m1 p1 a1) (k:kH base m1 p1 a1 R' m2 p2 a2):kH base m p a (R++R') m2 p2 a2:=by
 induction h with
 |refl=>exact k
 |kA hg ha _ ih=>exact .kA hg ha (ih k)
 |pop hS hb hs _ ih=>exact .pop hS hb hs (ih k)
 |emit hs _ ih=>exact .emit hs (ih k)
theorem iK {base:Nat}{m m':aB}{p p':ao}{a a':Bool}{R:List (Int×aq)} (h:kH base m p a R m' p' a') (hR:R=[]) {x:Rs} (he:Ev m' base p' a' x):Ev m base p a x:=by
 induction h with
 |refl=>exact he
 |kA hg ha _ ih=>exact JU hg ha (ih hR he)
 |pop hS hb hs _ ih=>exact KQ hS hb hs (ih hR he)
 |emit=>cases hR
theorem Eg {base:Nat}{m m':aB}{p p':ao}{a a':Bool}{R R1:List (Int×aq)}{r:Int×aq} (h:kH base m p a R m' p' a') (hR:R=r::R1) :
  ∃m1,Ev m base p a (m1,⟨r.1,r.2,.nil⟩,true)∧m1.aW=false∧kH base m1 .zero false R1 m' p' a':=by
 induction h with
 |refl=>cases hR
 |kA hg ha _ ih =>
  obtain⟨m1,k1,k2,k3⟩:=ih hR
  exact⟨m1,JU hg ha k1,k2,k3⟩
 |pop hS hb hs _ ih =>
  obtain⟨m1,k1,k2,k3⟩:=ih hR
  exact⟨m1,KQ hS hb hs k1,k2,k3⟩
 |@emit m0 i0 c0 R0 U9 U8 Uq hs h ih =>
  obtain⟨rfl,rfl⟩:=List.cons.inj hR
  refine⟨m0,?_,hs,h⟩
  have:=nH (m:=m0) (base:=base) (p:=⟨i0,c0,.nil⟩) rfl
  rwa [hs]at this
def ph (P:Re):aG→Option Re
 |.nil=>none
 |.root=>some P
 |.el re=>some re
def RT (re yv:Re):Prop:=(yv=re∧re.mode≠2)∨(re.mode=2∧yv=re.bP 0)
inductive GR (P:Re):aI→Goal→Prop where
 |nil:GR P .nil .nil
 |tree {r:aG}{re:Re}{n a k f:Int}{g:aI}{h:Goal} (hr:ph P r=some re) (hg:GR P g h):GR P (.mk 0 r n a g) (.mk 0 re k f h)
 |round {r:aG}{re yv:Re}{n a f:Int}{g:aI}{h:Goal} (hr:ph P r=some re) (ht:RT re yv) (hg:GR P g h):GR P (.mk 2 r n a g) (.mk 1 yv n f h)
 |more {r:aG}{re yv:Re}{n a f:Int}{g:aI}{h:Goal} (hr:ph P r=some re) (ht:RT re yv) (hn:n<yv.mn) (hg:GR P g h):GR P (.mk 2 r (n+1) a g) (.mk 2 yv n f h)
 |vb {r:aG}{re yv:Re}{n a:Int}{g:aI}{h:Goal} (hr:ph P r=some re) (ht:RT re yv) (hn:yv.mn≤n) (hg:GR P g h):GR P (.mk 3 r (n+1) a g) (.mk 2 yv n a h)
 |cap {r:aG}{re:Re}{a k:Int}{g:aI}{h:Goal} (hr:ph P r=some re) (hg:GR P g h):GR P (.mk 4 r 0 a g) (.mk 3 re k a h)
 |oA {r:aG}{re:Re}{a k:Int}{g:aI}{h:Goal} (hg:GR P g h):GR P (.mk 5 r 0 a g) (.mk 4 re k a h)
def vB (nc:Int) (re:Re):Bool:=decide ((re.op=3∨re.op=4∨re.op=5∨re.op=7∨re.op=8∨re.op=9→re.kids≠[])∧(re.op=10→2≤re.kids.length)∧re.set.length≤1000000000∧re.kids.length≤1000000000 ∧
 (re.op=5∨re.op=6∨re.op=10→1≤re.n∧re.n≤nc)∧(re.op=11→0≤re.n∧re.n≤5)∧(re.op=4→-1≤re.mx))
def GK (nc i s:Int):Goal→Prop
 |.nil=>True
 |.mk kind re k bO next=>(kind≠4→re.every (vB nc)=true)∧(kind=1∨kind=2→re.op=4∧re.mode≠2∧0≤k)∧(kind=1→k≤s)∧(kind=2→k<s)∧(kind=3→re.op=5∧0≤bO∧bO≤i)∧GK nc i s next
theorem GK.mono {nc i i' s s':Int} (hi:i≤i') (hs:s≤s'):∀{g:Goal},GK nc i s g→GK nc i' s' g
 |.nil,_=>trivial
 |.mk _ _ _ _ _,h=>by
  obtain⟨h1,h2,h3,h4,h5,h6⟩:=h
  exact⟨h1,h2,fun k=>by have:=h3 k;omega,fun k=>by have:=h4 k;omega,fun k=>by have:=h5 k;exact⟨this.1,by omega⟩,h6.mono hi hs⟩
structure MS (P:Re) (t:List Int) (F:Int) (m:aB) (S:List ao) (s:Int):Prop where
 p:m.p.re=P
 t:m.t=t
 fuel:m.fuel=F
 same:m.same
 dY:oo m S
 steps:m.steps=s
 aW:m.aW=false
 room:(S.length:Int)≤s
structure Po (m m':aB):Prop where
 fr:m.Fr m'
 steps:m.steps≤m'.steps
 J7:m.aC≤m'.aC
 IE:m'.aC≤max m.aC m'.steps
 cL:m.steps≤m.fuel→m'.steps≤m'.fuel
theorem Po.refl (m:aB):Po m m:=⟨.refl m,Vr _,Vr _,by omega,fun h=>h⟩
theorem Po.trans {m m1 m2:aB} (h:Po m m1) (k:Po m1 m2):Po m m2:=by
 obtain⟨a1,a2,a3,a4,a5⟩:=h
 obtain⟨b1,b2,b3,b4,b5⟩:=k
 exact⟨a1.trans b1,by omega,by omega,by omega,fun hh=>b5 (a5 hh)⟩
theorem MS.fr {P:Re}{t:List Int}{F:Int}{m m':aB}{S S':List ao}{s s':Int} (h:MS P t F m S s) (hf:m.Fr m') (hS:oo m' S') (hs:m'.steps=s') (hp:m'.aW=false) (hr:(S'.length:Int)≤s'):MS P t F m' S' s' :=
 ⟨by rw[hf.p];exact h.p,by rw[hf.t];exact h.t,by rw[hf.fuel];exact h.fuel,fun ho=>by rw[hf.own,hf.t];exact h.same (by rw[← hf.bq];exact ho),hS,hs,hp,hr⟩
theorem MS.pop {P:Re}{t:List Int}{F:Int}{m:aB}{S:List ao}{q:ao}{s:Int} (h:MS P t F m (S++[q]) s):MS P t F m.pop S s :=
 h.fr m.E5 h.dY.last.2 h.steps h.aW (by have:=h.room;rw[VN]at this;simp at this;omega)
theorem uA (m:aB):Po m m.pop:=⟨m.E5,Vr _,Vr _,by show m.aC≤max m.aC m.steps;omega,fun h=>h⟩
theorem MS.cX {P:Re}{t:List Int}{F:Int}{m:aB}{S:List ao}{s:Int} (h:MS P t F m S s) (ht:t.length≤1000000) (hF:F≤1200000000000) (h0:0≤s) (h1:s≤F) {p:ao} (hi0:0≤p.at_) (eK:p.at_≤t.length) (hc:p.ai.length≤1000000000):m.cX p:=by
 refine⟨⟨by rw[h.steps];exact h0,by rw[h.steps];omega,h.dY.len,h.dY.2.2⟩,⟨hi0,by rw[h.t];exact eK,hc⟩,by rw[h.t];exact ht,h.same⟩
def gS (P:Re) (t:List Int) (F:Int) (nc:Nat) (base:Nat) (S:List ao) (ah i:Int) (m:aB) (p:ao) (al:Bool) (st:aU) (b:Bool) (st':aU):Prop :=
 ∃(R:List (Int×aq)) (m':aB),st'.ends=st.ends++R.map Prod.fst∧st'.ai=st.ai++R.map Prod.snd∧(∀r∈R,i≤r.1∧r.1≤t.length∧cr t r.2∧r.2.length=nc)∧Po m m'∧st.steps≤st'.steps ∧
  ((b=false∧st'.empty=false∧(0≤ah→(st'.ends.length:Int)<ah)∧MS P t F m' S st'.steps∧st'.steps≤F∧∃p',kH base m p al R m' p' false) ∨
   (b=true∧st'.empty=false∧0≤ah∧(st'.ends.length:Int)=ah∧st'.steps≤F∧∃(S':List ao) (R0:List (Int×aq)) (e:Int) (d:aq),MS P t F m' (S++S') st'.steps∧R=R0++[(e,d)]∧kH base m p al R0 m' ⟨e,d,.nil⟩ true) ∨
   (b=true∧st'.empty=true∧(0≤ah→(st'.ends.length:Int)<ah)∧m'.aW=true∧∃(p':ao) (S':List ao),oo m' (S++S')∧kH base m p al R m' p' false))
section Sh
variable {P:Re}{t:List Int}{F:Int}{nc base:Nat}{S:List ao}{ah i:Int}{m:aB}{p:ao}{st st':aU}{b:Bool}
theorem gS.kA {m1:aB}{p1:ao}{Ms:Bool} (hg:p.goals=true) (ha:Lc m p (m1,p1,Ms)) (hp:Po m m1) (h:gS P t F nc base S ah i m1 p1 Ms st b st'):gS P t F nc base S ah i m p true st b st':=by
 obtain⟨R,m',h1,h2,h3,h4,h5,h6⟩:=h
 refine⟨R,m',h1,h2,h3,hp.trans h4,h5,?_⟩
 rcases h6 with ⟨k1,k2,k3,k4,kF,p',k5⟩|⟨k1,k2,k3,k4,kF,S',R0,e,d,k5,k6,k7⟩|⟨k1,k2,k3,k4,p',S',k5,k6⟩
 ·exact .inl ⟨k1,k2,k3,k4,kF,p',.kA hg ha k5⟩
 ·exact .inr (.inl ⟨k1,k2,k3,k4,kF,S',R0,e,d,k5,k6,.kA hg ha k7⟩)
 ·exact .inr (.inr ⟨k1,k2,k3,k4,p',S',k5,.kA hg ha k6⟩)
theorem gS.dZ {al:Bool}{i':Int}{s0:aU} (h:gS P t F nc base S ah i' m p al s0 b st') (hi:i≤i') (h1:s0.ends=st.ends) (h2:s0.ai=st.ai) (h3:st.steps≤s0.steps):gS P t F nc base S ah i m p al st b st':=by
 obtain⟨R,m',k1,k2,k3,k4,k5,k6⟩:=h
 exact⟨R,m',by rw[k1,h1],by rw[k2,h2],fun r hr=>by have:=k3 r hr;exact⟨by omega,this.2⟩,k4,by omega,k6⟩
theorem gS.no (hM:MS P t F m S st.steps) (he:st.empty=false) (hm:0≤ah→(st.ends.length:Int)<ah) (hF:st.steps≤F):gS P t F nc base S ah i m p false st false st :=
 ⟨[],m,by simp,by simp,by simp,.refl m,Vr _,.inl ⟨rfl,he,hm,hM,hF,p,.refl m p false⟩⟩
theorem gS.out {s1:aU} (hS:oo m S) (hs:m.aW=true) (he:s1.empty=true) (hm:0≤ah→(st.ends.length:Int)<ah) (h1:s1.ends=st.ends) (h2:s1.ai=st.ai) (h3:st.steps≤s1.steps):gS P t F nc base S ah i m p false st true s1 :=
 ⟨[],m,by simp [h1],by simp [h2],by simp,.refl m,h3,.inr (.inr ⟨rfl,he,by rw[h1];exact hm,hs,p,[],by simpa using hS,.refl m p false⟩)⟩
theorem gS.or {q:ao}{al b1:Bool}{s2:aU} (hb:base≤S.length) (h:gS P t F nc base (S++[q]) ah i m p al st b1 s2) (ht:b1=true→b=true∧st'=s2)
  (hf:b1=false→∀m2,m.Fr m2→MS P t F m2 (S++[q]) s2.steps→s2.empty=false→s2.steps≤F→(0≤ah→(s2.ends.length:Int)<ah)→st.steps≤s2.steps→gS P t F nc base S ah i m2.pop q true s2 b st'):gS P t F nc base S ah i m p al st b st':=by
 obtain⟨R,m',h1,h2,h3,h4,h5,h6⟩:=h
 rcases h6 with ⟨k1,k2,k3,k4,kF,p',k5⟩|⟨k1,k2,k3,k4,kF,S',R0,e,d,k5,k6,k7⟩|⟨k1,k2,k3,k4,p',S',k5,k6⟩
 ·obtain⟨R',m2,j1,j2,j3,j4,j5,j6⟩:=hf k1 m' h4.fr k4 k2 kF k3 h5
  have cY:∀{Qq QK GN IZ},kH base m'.pop q true Qq QK GN IZ→kH base m p al (R++Qq) QK GN IZ:=fun hr=>k5.trans (.pop k4.dY hb k4.aW hr)
  refine⟨R++R',m2,by rw[j1,h1];simp,by rw[j2,h2];simp,fun r hr=>?_,h4.trans ((uA m').trans j4),by omega,?_⟩
  ·rcases List.mem_append.1 hr with hr|hr
   ·exact h3 r hr
   ·exact j3 r hr
  ·rcases j6 with ⟨l1,l2,l3,l4,lF,GN,l5⟩|⟨l1,l2,l3,l4,lF,S',R0,e,d,l5,l6,l7⟩|⟨l1,l2,l3,l4,GN,S',l5,l6⟩
   ·exact .inl ⟨l1,l2,l3,l4,lF,GN,cY l5⟩
   ·exact .inr (.inl ⟨l1,l2,l3,l4,lF,S',R++R0,e,d,l5,by rw[l6,VY],cY l7⟩)
   ·exact .inr (.inr ⟨l1,l2,l3,l4,GN,S',l5,cY l6⟩)
 ·obtain⟨rfl,rfl⟩:=ht k1
  exact⟨R,m',h1,h2,h3,h4,h5,.inr (.inl ⟨rfl,k2,k3,k4,kF,q::S',R0,e,d,by simpa using k5,k6,k7⟩)⟩
 ·obtain⟨rfl,rfl⟩:=ht k1
  exact⟨R,m',h1,h2,h3,h4,h5,.inr (.inr ⟨rfl,k2,k3,k4,p',q::S',by simpa using k5,k6⟩)⟩
end Sh
def TR (P:Re):Task→ao→Prop
 |.run h i c,p=>p.at_=i∧p.ai=c∧GR P p.todo h
 |.node (.mk _ re _ _ h) i c,p=>p.at_=i∧p.ai=c∧∃r n a g,p.todo=.mk 0 r n a g∧ph P r=some re∧GR P g h
 |.node .nil _ _,_=>False
 |.rep (.mk _ re k _ h) i c,p=>p.at_=i∧p.ai=c∧((re.mode=2∧∃r n a g,p.todo=.mk 0 r n a g∧ph P r=some re∧GR P g h)∨(re.mode≠2∧∃r rj a g,p.todo=.mk 2 r k a g∧ph P r=some rj∧RT rj re∧GR P g h))
 |.rep .nil _ _,_=>False
def TK (nc s:Int):Task→Prop
 |.run h i _=>GK nc i s h
 |.node (.mk _ re _ _ h) i _=>re.every (vB nc)=true∧GK nc i s h
 |.node .nil _ _=>False
 |.rep (.mk _ re k _ h) i _=>re.every (vB nc)=true∧re.op=4∧0≤k∧k≤s∧GK nc i s h
 |.rep .nil _ _=>False
structure SP (F ah:Int) (st:aU):Prop where
 empty:st.empty=false
 s0:0≤st.steps
 s1:st.steps≤F
 ah:0≤ah→(st.ends.length:Int)<ah
def OE (P:Re) (t:List Int) (F:Int) (nc n:Nat):Prop:=∀ah task st b st',eh t F n ah task st=some (b,st')→∀base S m p,MS P t F m S st.steps→SP F ah st→base≤S.length→TR P task p→TK nc st.steps task →
 0≤task.pos→task.pos≤t.length→cr t task.ai→task.ai.length=nc→gS P t F nc base S ah task.pos m p true st b st'
theorem fl {P:Re}{t:List Int}{F:Int}{m:aB}{S:List ao}{s:Int} (hM:MS P t F m S s) {r:aG}{re:Re} (hr:ph P r=some re):m.lit r=some re:=by
 cases r with
 |nil=>cases hr
 |root=>cases hr;show some m.p.re=_;rw[hM.p]
 |el re=>exact hr
theorem uw {m:aB}{base:Nat}{p:ao}{al:Bool}{x:Rs} (hs:m.aW=false) (h:Ev m base p al x):∃k,aQ k true m base p al=some x:=by
 obtain⟨k,hk⟩:=h
 refine⟨k,?_⟩
 cases k with
 |zero=>cases hk
 |succ k =>
  rw[aQ.eq_2]at hk ⊢
  rw[if_neg (show ¬(false=true∧m.aW=true) from fun h=>by cases h.1)]at hk
  rw[if_neg (show ¬(true=true∧m.aW=true) from fun h=>by have h2:=h.2;rw[hs]at h2;cases h2)]
  exact hk
theorem kZ {P:Re}{t:List Int}{F:Int}{m:aB}{S:List ao}{s:Int} (hM:MS P t F m S s) (h:s<F):MS P t F m.step S (s+1)∧Po m m.step∧m.step.aC=m.aC:=by
 have hs:m.step={ m with steps:=m.steps+1 }:=by rw[aB.step,if_pos (by rw[hM.steps,hM.fuel];exact h)]
 have h1:=hM.steps
 rw[hs]
 refine⟨⟨hM.p,hM.t,hM.fuel,hM.same,hM.dY,by show m.steps+1=_;rw[h1],hM.aW,by have:=hM.room;omega⟩,⟨⟨rfl,rfl,rfl,rfl,rfl,rfl,rfl,rfl⟩,by show m.steps≤m.steps+1;omega,Vr _,by show m.aC≤max m.aC _;omega,fun _=>by show m.steps+1≤m.fuel;rw[hM.steps,hM.fuel];omega⟩,rfl⟩
theorem sY {P:Re}{t:List Int}{F:Int}{m:aB}{S:List ao}{s:Int} (hM:MS P t F m S s) (h:F≤s):oo m.step S∧m.step.aW=true∧Po m m.step:=by
 have hs:m.step={ m with aW:=true }:=by rw[aB.step,if_neg (by rw[hM.steps,hM.fuel];omega)]
 rw[hs]
 exact⟨hM.dY,rfl,⟨rfl,rfl,rfl,rfl,rfl,rfl,rfl,rfl⟩,Vr _,Vr _,by show m.aC≤max m.aC _;omega,fun h=>h⟩
theorem wm {P:Re}{t:List Int}{F:Int}{m:aB}{S:List ao}{s:Int} (hM:MS P t F m S s) (q:ao) (h:(S.length:Int)+1≤s) (hF:F≤1200000000000) (hs:s≤F):MS P t F (m.push q) (S++[q]) s∧Po m (m.push q):=by
 have hk:=hM.dY.push q (by omega)
 have h1:=hM.steps
 have ht:=hM.dY.2.1
 refine⟨hM.fr (m.wx q) hk h1 hM.aW (by rw[VN];simpa using h),m.wx q,Vr _,?_,?_,fun h=>h⟩
 ·show m.aC≤max m.aC _;omega
 ·show max m.aC ((m.top+1:Nat):Int)≤max m.aC m.steps;omega
theorem GS {P:Re}{t:List Int}{F:Int}{nc:Nat}{S:List ao}{i:Int}{m:aB}{q:ao}{s:Int}{b:Bool}{x:aU} (hM:MS P t F m S s) (h:gS P t F nc S.length S 1 i m q true ⟨s,false,[],[]⟩ b x) :
  ∃m1 r found,(∃k,bY (fun m base p=>aQ k true m base p true) m q=some (m1,r,found))∧Po m m1∧oo m1 S∧s≤x.steps ∧
   ((x.empty=false∧MS P t F m1 S x.steps∧x.steps≤F∧((found=true∧∃e d,x.ends=[e]∧x.ai=[d]∧r=⟨e,d,.nil⟩∧i≤e∧e≤t.length∧cr t d∧d.length=nc)∨(found=false∧x.ends=[]∧x.ai=[]))) ∨
    (x.empty=true∧m1.aW=true∧found=false)):=by
 obtain⟨R,m',h1,h2,h3,h4,h5,h6⟩:=h
 simp only[Vx]at h1 h2
 have EP:m.top=S.length:=hM.dY.2.1
 have fin:∀{m2 r found S'},Ev m S.length q true (m2,r,found)→oo m2 (S++S')→∃k,bY (fun m base p=>aQ k true m base p true) m q=some (m2.clear S.length,r,found):=by
  intro m2 r found S' he Pv
  obtain⟨k,hk⟩:=uw hM.aW he
  refine⟨k,?_⟩
  simp only[bY]
  rw[EP,hk]
  simp only
  rw[if_neg]
  have:=Pv.2.1
  have:=Pv.len
  rw[VN]at *
  omega
 have Nh:∀{m2:aB},Po m m2→Po m (m2.clear S.length):=fun h=>⟨h.fr.trans (aB.lD _ _),h.steps,h.J7,h.IE,h.cL⟩
 rcases h6 with ⟨k1,k2,k3,k4,kF,p',k5⟩|⟨k1,k2,k3,k4,kF,S',R0,e,d,k5,k6,k7⟩|⟨k1,k2,k3,k4,p',S',k5,k6⟩
 ·
  have hx:x.ends=[]:=VD (by have:=k3 (by omega);omega)
  have hR:R=[]:=by rw[h1]at hx;exact List.map_eq_nil_iff.1 hx
  subst hR
  have he:Ev m S.length q true (m',.zero,false):=iK k5 rfl (jv k4.dY.2.1)
  refine⟨_,_,_,fin (S':=[]) he (by simpa using k4.dY),Nh h4,(show oo m' (S++[]) by simpa using k4.dY).clear,h5,.inl ⟨k2,?_,kF,.inr ⟨rfl,by simpa using h1,by simpa using h2⟩⟩⟩
  exact k4.fr (aB.lD _ _) (show oo m' (S++[]) by simpa using k4.dY).clear k4.steps k4.aW k4.room
 ·have Qw:R0=[]:=by
   have:=congrArg List.length h1
   rw[k6]at this
   simp at this
   exact VD (by omega)
  subst Qw
  simp only[Vx]at k6
  subst k6
  have he:Ev m S.length q true (m',⟨e,d,.nil⟩,true):=by
   refine iK k7 rfl ?_
   have:=nH (m:=m') (base:=S.length) (p:=⟨e,d,.nil⟩) rfl
   rwa [k5.aW]at this
  have hr:=h3 (e,d) (by simp)
  refine⟨_,_,_,fin he k5.dY,Nh h4,k5.dY.clear,h5,.inl ⟨k2,?_,kF,.inl ⟨rfl,e,d,by simpa using h1,by simpa using h2,rfl,hr.1,hr.2.1,hr.2.2.1,hr.2.2.2⟩⟩⟩
  exact k5.fr (aB.lD _ _) k5.dY.clear k5.steps k5.aW (by have:=k5.room;rw[VN]at this;omega)
 ·have hx:x.ends=[]:=VD (by have:=k3 (by omega);omega)
  have hR:R=[]:=by rw[h1]at hx;exact List.map_eq_nil_iff.1 hx
  subst hR
  -- K2 search ends: at once,or behind one more choice
  have nn:∃m2 S2,Ev m' S.length p' false (m2,.zero,false)∧oo m2 (S++S2)∧m2.aW=true∧Po m' m2:=by
   rcases List.eq_nil_or_concat S' with rfl|⟨S2,q2,rfl⟩
   ·refine⟨m',[],jv (by simpa using k5.2.1),by simpa using k5,k4,.refl _⟩
   ·have Cc:oo m' ((S++S2)++[q2]):=by simpa [VY]using k5
    refine⟨m'.pop,S2,?_,Cc.last.2,k4,uA m'⟩
    have hl:=Cc.len
    have ht:m'.top=(S++S2).length+1:=by rw[Cc.2.1,VN];rfl
    refine⟨2,?_⟩
    rw[aQ.eq_2,if_neg (show ¬(false=true∧m'.aW=true) from fun h=>by cases h.1),if_neg (fun h=>by cases h.1),if_neg (fun h=>by cases h),if_neg (by rw[ht,VN];omega),if_neg (by have:=Cc.2.2;omega),Cc.last.1]
    simp only
    rw[aQ.eq_2,if_pos ⟨rfl,k4⟩]
  obtain⟨m2,S2,j1,j2,j3,j4⟩:=nn
  exact⟨_,_,_,fin (iK k6 rfl j1) j2,Nh (h4.trans j4),j2.clear,h5,.inr ⟨k2,j3,rfl⟩⟩
section QL
variable {m:aB}{i n a:Int}{c:aq}{r:aG}{g:aI}{y:Rs}
theorem ft (hg:m.cX ⟨i,c,.mk 0 r n a g⟩) (h:∃k,bj (fun m base p=>aQ k true m base p true) m r ⟨i,c,g⟩=some y):Lc m ⟨i,c,.mk 0 r n a g⟩ y:=by
 obtain⟨k,hk⟩:=h
 refine⟨k,?_⟩
 unfold fY
 rw[if_neg (by simpa using hg)]
 exact hk
theorem fq (hg:m.cX ⟨i,c,.mk 2 r n a g⟩) (hn:0≤n) (kv:n≤10000000000000) (h:fG m r n ⟨i,c,g⟩=some y):Lc m ⟨i,c,.mk 2 r n a g⟩ y:=by
 refine⟨0,?_⟩
 unfold fY
 rw[if_neg (by simpa using hg)]
 simp only
 rw[if_neg (by decide),if_neg (by omega),if_neg (by decide),if_pos trivial]
 exact h
theorem w9 {re kid:Re} (hg:m.cX ⟨i,c,.mk 1 r n a g⟩) (hn:0≤n) (kv:n≤10000000000000) (hr:m.lit r=some re) (hl:re.kids.length≤1000000000) (hk:re.kids[n.toNat]?=some kid) :
  Lc m ⟨i,c,.mk 1 r n a g⟩ (if n+1<re.kids.length then m.push ⟨i,c,.mk 1 r (n+1) 0 g⟩ else m,⟨i,c,.mk 0 (.el kid) 0 0 g⟩,true):=by
 refine⟨0,?_⟩
 unfold fY
 rw[if_neg (by simpa using hg)]
 simp only
 rw[if_neg (by decide),if_neg (by omega),if_pos trivial,hr]
 simp only
 rw[if_neg (by omega),hk]
 rfl
theorem tH (hg:m.cX ⟨i,c,.mk 3 r n a g⟩) (hn:0≤n) (kv:n≤10000000000000):Lc m ⟨i,c,.mk 3 r n a g⟩ (if i=a then (m,.zero,false) else (m,⟨i,c,.mk 2 r n 0 g⟩,true)):=by
 refine⟨0,?_⟩
 unfold fY
 rw[if_neg (by simpa using hg)]
 simp only
 rw[if_neg (by decide),if_neg (by omega),if_neg (by decide),if_neg (by decide),if_pos trivial]
 split <;> rfl
theorem FU {re:Re} (hg:m.cX ⟨i,c,.mk 4 r 0 a g⟩) (hr:m.lit r=some re) (h1:1≤re.n) (h2:re.n≤c.length):Lc m ⟨i,c,.mk 4 r 0 a g⟩ (m,⟨i,c.set (re.n-1).toNat (a,i),g⟩,true):=by
 refine⟨0,?_⟩
 unfold fY
 rw[if_neg (by simpa using hg)]
 simp only
 rw[if_neg (by decide),if_neg (by decide),if_neg (by decide),if_neg (by decide),if_neg (by decide),if_pos trivial,hr]
 simp only
 rw[if_neg (by omega)]
theorem rO (hg:m.cX ⟨i,c,.mk 5 r 0 a g⟩):Lc m ⟨i,c,.mk 5 r 0 a g⟩ (m,⟨i,c,g⟩,decide (i=a)):=by
 refine⟨0,?_⟩
 unfold fY
 rw[if_neg (by simpa using hg)]
 simp only
 rw[if_neg (by decide),if_neg (by decide),if_neg (by decide),if_neg (by decide),if_neg (by decide),if_neg (by decide),if_pos trivial]
end QL
theorem bJ {nc:Int}{re:Re} (h:re.every (vB nc)=true):((re.op=3∨re.op=4∨re.op=5∨re.op=7∨re.op=8∨re.op=9→re.kids≠[])∧(re.op=10→2≤re.kids.length)∧re.set.length≤1000000000∧re.kids.length≤1000000000 ∧
  (re.op=5∨re.op=6∨re.op=10→1≤re.n∧re.n≤nc)∧(re.op=11→0≤re.n∧re.n≤5)∧(re.op=4→-1≤re.mx))∧∀k∈re.kids,k.every (vB nc)=true:=by
 obtain⟨h1,h2⟩:=(Re.cS re).1 h
 exact⟨of_decide_eq_true h1,h2⟩
structure Fx (t:List Int) (F:Int) (nc:Nat):Prop where
 ht:t.length≤1000000
 hF:F≤1200000000000
 nc:nc≤1000000000
theorem SP.step {F ah:Int}{st:aU} (h:SP F ah st) (he:(st.step F).empty=false):st.steps<F∧SP F ah (st.step F):=by
 simp only[aU.step,h.empty,VM]at he
 have h1:=of_decide_eq_false he
 refine⟨by omega,?_,by show 0≤st.steps+1;have:=h.s0;omega,by show st.steps+1≤F;omega,h.ah⟩
 simp only[aU.step,h.empty,VM]
 exact decide_eq_false h1
theorem SP.FZ {F ah:Int}{st:aU} (h:SP F ah st) (he:(st.step F).empty=true):F≤st.steps:=by
 simp only[aU.step,h.empty,VM]at he
 have:=of_decide_eq_true he
 omega
section rep
variable {P:Re}{t:List Int}{F:Int}{nc n:Nat} (X:Fx t F nc) (ih:OE P t F nc n)
include X ih
theorem Ln {ah:Int}{re rj:Re}{k i:Int}{c:aq}{next:Goal}{st st':aU}{b:Bool}{base:Nat}{S:List ao}{m:aB}{r:aG}{a:Int}{g:aI} (hM:MS P t F m S st.steps) (hS:SP F ah st) (hb:base≤S.length)
  (hr:ph P r=some rj) (RY:RT rj re) (hg:GR P g next) (hv:re.every (vB nc)=true) (o4:re.op=4) (lW:re.mode≠2) (dL:0≤k) (eO:k≤st.steps) (hn:GK nc i st.steps next) (hi0:0≤i) (eK:i≤t.length) (hc:cr t c) (cI:c.length=nc)
  (h:n8 F (eh t F n) ah re k next i c st=some (b,st')):gS P t F nc base S ah i m ⟨i,c,.mk 2 r k a g⟩ true st b st':=by
 have eB:=hS.s0
 have ga:=hS.s1
 have hF:=X.hF
 unfold n8 at h
 rw[if_neg lW]at h
 rw[if_neg (show ¬(st.steps<0∨10000000000000<st.steps) by omega)]at h
 simp only at h
 have jm:=hM.cX (p:=⟨i,c,.mk 2 r k a g⟩) X.ht hF eB ga hi0 eK (by show c.length≤_;rw[cI];exact X.nc)
 have Mf:=fl hM hr
 -- K2 tree of K2 machine
 have e0:rj.kids=re.kids∧rj.mn=re.mn∧rj.mx=re.mx∧(rj.mode=1 ↔ re.mode=1):=by
  rcases RY with ⟨rfl,_⟩|⟨h2,rfl⟩
  ·exact⟨rfl,rfl,rfl,Iff.rfl⟩
  ·refine⟨rfl,rfl,rfl,?_⟩
   rw[h2];simp [Re.bP,Re.mode]
 obtain⟨e1,e2,e3,e4⟩:=e0
 obtain⟨⟨v1,_,_,v4,_,_,v7⟩,fJ⟩:=bJ hv
 obtain⟨kid,l,cJ⟩:∃kid l,re.kids=kid::l:=by
  cases hh:re.kids with
  |nil=>exact absurd hh (v1 (by omega))
  |cons y l=>exact⟨y,l,rfl⟩
 have dF:∀y,fG m r k ⟨i,c,g⟩=y→fG m r k ⟨i,c,g⟩=(if m.fuel≤m.steps then some (m.step,.zero,false) else if k<re.mn then some (m.step,⟨i,c,.mk 0 (.el kid) 0 0 (.mk 2 r (k+1) 0 g)⟩,true)
   else if 0≤re.mx∧re.mx≤k then some (m.step,⟨i,c,g⟩,true)
   else if re.mode=1 then some (m.step.push ⟨i,c,.mk 0 (.el kid) 0 0 (.mk 3 r (k+1) i g)⟩,⟨i,c,g⟩,true) else some (m.step.push ⟨i,c,g⟩,⟨i,c,.mk 0 (.el kid) 0 0 (.mk 3 r (k+1) i g)⟩,true)):=by
  intro y _
  unfold fG
  rw[Mf]
  simp only
  rw[e1,cJ,e2,e3]
  simp only[e4]
 have dF:=dF _ rfl
 by_cases he:(st.step F).empty=true
 ·rw[if_pos he]at h
  cases h
  have FY:=hS.FZ he
  obtain⟨q1,q2,q3⟩:=sY hM FY
  refine gS.kA rfl (fq jm dL (by omega) (y:=(m.step,.zero,false)) ?_) q3 (gS.out q1 q2 he hS.ah rfl rfl (by show st.steps≤st.steps+1;omega))
  rw[dF,if_pos (by rw[hM.steps,hM.fuel];exact FY)]
 rw[if_neg he]at h
 have he:(st.step F).empty=false:=by simpa using he
 obtain⟨aT,ow⟩:=hS.step he
 obtain⟨pY,yg,_⟩:=kZ hM aT
 rw[if_neg (by rw[hM.steps,hM.fuel];omega)]at dF
 have Na:(st.step F).steps=st.steps+1:=rfl
 have ji:(st.step F).ends=st.ends:=rfl
 have Mz:(st.step F).ai=st.ai:=rfl
 rw[← Na]at pY
 generalize Rt:st.step F=s1 at *
 rw[cJ]at h
 simp only at h
 have sJ:kid.every (vB nc)=true:=fJ kid (by rw[cJ];simp)
 have kv:GK nc i s1.steps next:=hn.mono (Vr _) (by omega)
 -- one more round
 have once:∀(s s':aU) (b':Bool) (S2:List ao) (m2:aB),base≤S2.length→MS P t F m2 S2 s.steps→SP F ah s→s1.steps≤s.steps→eh t F n ah (.run (.mk 0 kid 0 0 (.mk 2 re k i next)) i c) s=some (b',s')→re.mn≤k→gS P t F nc base S2 ah i m2 ⟨i,c,.mk 0 (.el kid) 0 0 (.mk 3 r (k+1) i g)⟩ true s b' s':=by
  intro s s' b' S2 m2 Lb Ha Sf xS eT hmn
  refine ih ah _ s b' s' eT base S2 m2 _ Ha Sf Lb ⟨rfl,rfl,.tree rfl (.vb hr RY hmn hg)⟩ ?_ hi0 eK hc cI
  exact⟨fun _=>sJ,fun h=>by omega,fun h=>by omega,fun h=>by omega,fun h=>by omega,fun _=>hv,fun _=>⟨o4,lW,dL⟩,fun h=>by omega,fun _=>by omega,fun h=>by omega,kv.mono (Vr _) xS⟩
 have Oc:∀(s s':aU) (b':Bool) (S2:List ao) (m2:aB),base≤S2.length→MS P t F m2 S2 s.steps→SP F ah s→s1.steps≤s.steps→eh t F n ah (.run next i c) s=some (b',s')→gS P t F nc base S2 ah i m2 ⟨i,c,g⟩ true s b' s':=by
  intro s s' b' S2 m2 Lb Ha Sf xS eT
  exact ih ah _ s b' s' eT base S2 m2 _ Ha Sf Lb ⟨rfl,rfl,hg⟩ (kv.mono (Vr _) xS) hi0 eK hc cI
 by_cases c2:k<re.mn
 ·rw[if_pos c2]at h
  rw[if_pos c2]at dF
  refine gS.kA rfl (fq jm dL (by omega) dF) yg (gS.dZ ?_ (Vr _) ji Mz (by omega))
  refine ih ah _ s1 b st' h base S _ _ pY ow hb ⟨rfl,rfl,.tree rfl (.more hr RY c2 hg)⟩ ?_ hi0 eK hc cI
  exact⟨fun _=>sJ,fun h=>by omega,fun h=>by omega,fun h=>by omega,fun h=>by omega,fun _=>hv,fun _=>⟨o4,lW,dL⟩,fun h=>by omega,fun _=>by omega,fun h=>by omega,kv⟩
 rw[if_neg c2]at h dF
 have QY:=v7 o4
 by_cases cM:re.mx=-1∨k<re.mx
 ·rw[if_neg (show ¬(0≤re.mx∧re.mx≤k) by omega)]at dF
  simp only[if_pos cM]at h
  have dR:=hM.room
  by_cases m1:re.mode=1
  ·rw[if_pos m1]at h dF
   obtain⟨PI,Pn⟩:=wm pY ⟨i,c,.mk 0 (.el kid) 0 0 (.mk 3 r (k+1) i g)⟩ (by omega) hF ow.s1
   refine gS.kA rfl (fq jm dL (by omega) dF) (yg.trans Pn) (gS.dZ ?_ (Vr _) ji Mz (by omega))
   cases hx:eh t F n ah (.run next i c) s1 with
   |none=>rw[hx]at h;cases h
   |some y =>
    obtain⟨b1,s2⟩:=y
    rw[hx]at h
    refine gS.or hb (Oc s1 s2 b1 _ _ (by rw[VN];omega) PI ow (Vr _) hx) (fun xP=>?_) (fun xP m2 yl Ha EI IY vx xS=>?_)
    ·subst xP;simp only[rm]at h;cases h;exact⟨rfl,rfl⟩
    ·subst xP
     simp only[rm]at h
     exact once s2 st' b S m2.pop hb Ha.pop ⟨EI,by omega,IY,vx⟩ xS h (by omega)
  ·rw[if_neg m1]at h dF
   obtain⟨PI,Pn⟩:=wm pY ⟨i,c,g⟩ (by omega) hF ow.s1
   refine gS.kA rfl (fq jm dL (by omega) dF) (yg.trans Pn) (gS.dZ ?_ (Vr _) ji Mz (by omega))
   cases hx:eh t F n ah (.run (.mk 0 kid 0 0 (.mk 2 re k i next)) i c) s1 with
   |none=>rw[hx]at h;cases h
   |some y =>
    obtain⟨b1,s2⟩:=y
    rw[hx]at h
    refine gS.or hb (once s1 s2 b1 _ _ (by rw[VN];omega) PI ow (Vr _) hx (by omega)) (fun xP=>?_) (fun xP m2 yl Ha EI IY vx xS=>?_)
    ·subst xP;simp only[rm]at h;cases h;exact⟨rfl,rfl⟩
    ·subst xP
     simp only[rm]at h
     exact Oc s2 st' b S m2.pop hb Ha.pop ⟨EI,by omega,IY,vx⟩ xS h
 ·rw[if_pos (show 0≤re.mx∧re.mx≤k by omega)]at dF
  simp only[if_neg cM]at h
  have h':eh t F n ah (.run next i c) s1=some (b,st'):=by
   split at h
   ·cases hx:eh t F n ah (.run next i c) s1 with
    |none=>rw[hx]at h;cases h
    |some y =>
     obtain⟨b1,s2⟩:=y
     rw[hx]at h
     cases b1 with
     |true=>exact h
     |false=>exact h
   ·exact h
  refine gS.kA rfl (fq jm dL (by omega) dF) yg (gS.dZ (Oc s1 st' b S _ hb pY ow (Vr _) h') (Vr _) ji Mz (by omega))
end rep
section nodes
variable {P:Re}{t:List Int}{F:Int}{nc n:Nat} (X:Fx t F nc) (ih:OE P t F nc n)
include ih
theorem uq {h:Goal}{q:Int}{c:aq}{st s2:aU}{o:Option (Int×aq)}{S:List ao}{m:aB}{gb:aI} (hM:MS P t F m S st.steps) (he:st.empty=false) (eB:0≤st.steps) (ga:st.steps≤F) (hg:GR P gb h) (hk:GK nc q st.steps h) (Up:0≤q) (UK:q≤t.length) (hc:cr t c) (cI:c.length=nc)
  (hr:cT (eh t F n) h q c st=some (o,s2)) :
  ∃m1 r found,(∃k,bY (fun m base p=>aQ k true m base p true) m ⟨q,c,gb⟩=some (m1,r,found))∧Po m m1∧oo m1 S∧st.steps≤s2.steps∧s2.ends=st.ends∧s2.ai=st.ai ∧
   ((s2.empty=false∧MS P t F m1 S s2.steps∧s2.steps≤F∧((found=true∧∃e d,o=some (e,d)∧r=⟨e,d,.nil⟩∧q≤e∧e≤t.length∧cr t d∧d.length=nc)∨(found=false∧o=none))) ∨
    (s2.empty=true∧m1.aW=true∧found=false∧o=none)):=by
 unfold cT at hr
 cases hx:eh t F n 1 (.run h q c) ⟨st.steps,false,[],[]⟩ with
 |none=>rw[hx]at hr;cases hr
 |some y =>
  obtain⟨b,x⟩:=y
  rw[hx]at hr
  simp only at hr
  have kx:=ih 1 _ _ _ _ hx S.length S m ⟨q,c,gb⟩ hM ⟨rfl,eB,ga,fun _=>by simp⟩ (VA _) ⟨rfl,rfl,hg⟩ hk Up UK hc cI
  obtain⟨m1,r,found,k1,k2,k3,k4,k5⟩:=GS hM kx
  rcases k5 with ⟨j1,j2,j3,j4⟩|⟨j1,j2,j3⟩
  ·rw[if_neg (by rw[j1];exact V1)]at hr
   rcases j4 with ⟨l1,e,d,l2,l3,l4,l5,l6,l7,l8⟩|⟨l1,l2,l3⟩
   ·rw[l2,l3]at hr
    cases hr
    exact⟨m1,r,found,k1,k2,k3,k4,rfl,rfl,.inl ⟨j1,j2,j3,.inl ⟨l1,e,d,rfl,l4,l5,l6,l7,l8⟩⟩⟩
   ·rw[l2,l3]at hr
    cases hr
    exact⟨m1,r,found,k1,k2,k3,k4,rfl,rfl,.inl ⟨j1,j2,j3,.inr ⟨l1,rfl⟩⟩⟩
  ·rw[if_pos j1]at hr
   cases hr
   exact⟨m1,r,found,k1,k2,k3,k4,rfl,rfl,.inr ⟨j1,j2,j3,rfl⟩⟩
def CU (P:Re) (t:List Int) (F:Int) (nc:Nat) (S:List ao) (neg:Bool) (p:ao) (m:aB) (st:aU) (ro:Option aq) (s2:aU) (x:Rs):Prop :=
 Po m x.1∧oo x.1 S∧st.steps≤s2.steps∧s2.ends=st.ends∧s2.ai=st.ai ∧
  ((s2.empty=true∧x.1.aW=true∧x.2.2=false) ∨
   (s2.empty=false∧MS P t F x.1 S s2.steps∧s2.steps≤F∧((ro=none∧x.2.1=p∧x.2.2=neg)∨∃d,ro=some d∧cr t d∧d.length=nc∧((neg=true∧x.2.2=false)∨(neg=false∧x.2.1={ p with ai:=d }∧x.2.2=true)))))
theorem uS {h:Goal}{gb:aI}{c:aq}{S:List ao}{neg:Bool}{p:ao}{last:Int} (hg:GR P gb h) (hc:cr t c) (cI:c.length=nc):∀(j:Nat) (m:aB) (st s2:aU) (ro:Option aq),
  (∀q:Nat,q<j→0≤last+q∧last+q≤t.length)→(∀(q s:Int),st.steps≤s→GK nc q s h)→MS P t F m S st.steps→st.empty=false→0≤st.steps→st.steps≤F →
  dK (fun k st=>cT (eh t F n) h (last+k) c st) j st=some (ro,s2) →
  ∃x,(∃k,dz (fun q m=>bY (fun m base p=>aQ k true m base p true) m ⟨q,c,gb⟩) neg p last j m=some x)∧CU P t F nc S neg p m st ro s2 x
 |0,m,st,s2,ro,_,_,hM,he,_,ga,hr=>by
  simp only[dK]at hr
  cases hr
  exact⟨(m,p,neg&&!m.aW),⟨0,rfl⟩,.refl m,hM.dY,Vr _,rfl,rfl,.inr ⟨he,hM,ga,.inl ⟨rfl,rfl,by rw[hM.aW];simp⟩⟩⟩
 |j+1,m,st,s2,ro,hq,hk,hM,he,eB,ga,hr=>by
  simp only[dK]at hr
  rw[if_neg (by rw[he];exact V1)]at hr
  have Tq:=hq j (by omega)
  cases hx:cT (eh t F n) h (last+j) c st with
  |none=>rw[hx]at hr;cases hr
  |some y =>
   obtain⟨o,s3⟩:=y
   rw[hx]at hr
   obtain⟨m1,r,found,⟨k1,eO⟩,k2,k3,k4,k5,k6,k7⟩:=uq ih hM he eB ga hg (hk _ _ (Vr _)) Tq.1 Tq.2 hc cI hx
   rcases k7 with ⟨j1,j2,j3,⟨rfl,e,d,rfl,rfl,l3,l4,l5,l6⟩|⟨rfl,rfl⟩⟩|⟨j1,j2,rfl,rfl⟩
   ·simp only at hr
    cases hr
    refine⟨if neg=true then (m1,.zero,false) else (m1,{ p with ai:=d },true),⟨k1,?_⟩,?_⟩
    ·simp only[dz]
     rw[if_neg (by rw[hM.aW];exact V1),eO]
     simp only[if_true]
     split <;> rfl
    ·cases neg with
     |true=>exact⟨k2,k3,k4,k5,k6,.inr ⟨j1,j2,j3,.inr ⟨d,rfl,l5,l6,.inl ⟨rfl,rfl⟩⟩⟩⟩
     |false=>exact⟨k2,k3,k4,k5,k6,.inr ⟨j1,j2,j3,.inr ⟨d,rfl,l5,l6,.inr ⟨rfl,rfl,rfl⟩⟩⟩⟩
   ·simp only at hr
    obtain⟨x,⟨QR,yw⟩,p1,p2,p3,p4,p5,p6⟩:=uS hg hc cI j m1 s3 s2 ro (fun q U2=>hq q (by omega)) (fun q s xS=>hk q s (by omega)) j2 j1 (by omega) j3 hr
    refine⟨x,⟨max k1 QR,?_⟩,k2.trans p1,p2,by omega,by rw[p4,k5],by rw[p5,k6],p6⟩
    simp only[dz]
    rw[if_neg (by rw[hM.aW];exact V1),jh (fun m base p x hx=>hU (Ws k1 QR) hx) eO]
    simp only[Vw,if_false]
    exact nT (fun q m x hx=>jh (fun m base p x hx=>hU (Wp k1 QR) hx) hx) _ _ _ yw
   ·simp only at hr
    have Uh:(ro,s2)=(none,s3):=by
     cases j with
     |zero=>simp only[dK]at hr;exact(Option.some.inj hr).symm
     |succ j=>simp only[dK]at hr;rw[if_pos j1]at hr;exact(Option.some.inj hr).symm
    cases Uh
    refine⟨(m1,p,neg&&!m1.aW),⟨k1,?_⟩,k2,k3,k4,k5,k6,.inl ⟨j1,j2,by rw[j2];simp⟩⟩
    simp only[dz]
    rw[if_neg (by rw[hM.aW];exact V1),eO]
    simp only[Vw,if_false]
    cases j with
    |zero=>simp only[dz]
    |succ j=>simp only[dz];rw[if_pos j2]
include X
theorem FQ {ah:Int}{re:Re}{i:Int}{c:aq}{next:Goal}{base:Nat}{r:aG}{g:aI}{b:Bool}{st':aU} (hr:ph P r=some re) (hg:GR P g next) (hv:re.every (vB nc)=true) (hi0:0≤i) (eK:i≤t.length) (hc:cr t c) (cI:c.length=nc) :
  ∀(l:List Re) (j:Nat) (st:aU) (S:List ao) (m:aB) (a:Int),re.kids.drop j=l→l≠[]→MS P t F m S st.steps→SP F ah st→(S.length:Int)+1≤st.steps→base≤S.length→GK nc i st.steps next →
   oM (fun k st=>eh t F n ah (.run (.mk 0 k 0 0 next) i c) st) l st=some (b,st')→gS P t F nc base S ah i m ⟨i,c,.mk 1 r j a g⟩ true st b st'
 |[],_,_,_,_,_,_,gf,_,_,_,_,_,_=>absurd rfl gf
 |kid::l,j,st,S,m,a,hl,_,hM,hS,dR,hb,hk,h=>by
  have nP:re.kids[j]?=some kid:=by
   have:=congrArg (fun l=>l[0]?) hl
   simpa using this
  have hj:=(List.getElem?_eq_some_iff.1 nP).1
  obtain⟨⟨_,_,_,v4,_,_,_⟩,fJ⟩:=bJ hv
  have jm:=hM.cX (p:=⟨i,c,.mk 1 r j a g⟩) X.ht X.hF hS.s0 hS.s1 hi0 eK (by show c.length≤_;rw[cI];exact X.nc)
  have gg:=w9 (re:=re) (kid:=kid) jm (by omega) (by omega) (fl hM hr) v4 (by simpa using nP)
  have cY:∀(NS:aU) (b1:Bool) (s2:aU) (S2:List ao) (m2:aB),eh t F n ah (.run (.mk 0 kid 0 0 next) i c) NS=some (b1,s2)→MS P t F m2 S2 NS.steps→SP F ah NS→base≤S2.length→st.steps≤NS.steps →
    gS P t F nc base S2 ah i m2 ⟨i,c,.mk 0 (.el kid) 0 0 g⟩ true NS b1 s2:=by
   intro NS b1 s2 S2 m2 eT Ha OZ Lb xS
   exact ih ah _ NS b1 s2 eT base S2 m2 _ Ha OZ Lb ⟨rfl,rfl,.tree rfl hg⟩ ⟨fun _=>fJ kid (Vy nP),fun h=>by omega,fun h=>by omega,fun h=>by omega,fun h=>by omega,hk.mono (Vr _) xS⟩ hi0 eK hc cI
  have xH:re.kids.drop (j+1)=l:=by
   have h1:re.kids.drop (j+1)=(re.kids.drop j).drop 1:=by rw[List.drop_drop]
   rw[h1,hl];rfl
  simp only[oM]at h
  cases hx:eh t F n ah (.run (.mk 0 kid 0 0 next) i c) st with
  |none=>rw[hx]at h;cases h
  |some y =>
   obtain⟨b1,s2⟩:=y
   rw[hx]at h
   cases l with
   |nil =>
    have hlen:re.kids.length=j+1:=by have:=congrArg List.length xH;simp at this;omega
    rw[if_neg (by omega)]at gg
    have K7:b1=b∧s2=st':=by
     cases b1 with
     |true=>simp only[rm]at h;cases h;exact⟨rfl,rfl⟩
     |false=>simp only[rm,oM]at h;cases h;exact⟨rfl,rfl⟩
    obtain⟨rfl,rfl⟩:=K7
    exact gS.kA rfl gg (.refl m) (cY st b1 s2 S m hx hM hS hb (Vr _))
   |cons k2 l2 =>
    have hlen:j+1<re.kids.length:=by have:=congrArg List.length xH;simp at this;omega
    rw[if_pos (by omega)]at gg
    obtain⟨PI,Pn⟩:=wm hM ⟨i,c,.mk 1 r ((j:Int)+1) 0 g⟩ dR X.hF hS.s1
    refine gS.kA rfl gg Pn ?_
    refine gS.or hb (cY st b1 s2 _ _ hx PI hS (by rw[VN];omega) (Vr _)) (fun xP=>?_) (fun xP m2 yl Ha EI IY vx xS=>?_)
    ·subst xP;simp only[rm]at h;cases h;exact⟨rfl,rfl⟩
    ·subst xP
     simp only[rm]at h
     have:=FQ hr hg hv hi0 eK hc cI (k2::l2) (j+1) s2 S m2.pop 0 xH (by simp) Ha.pop ⟨EI,by have:=hS.s0;omega,IY,vx⟩ (by omega) hb (hk.mono (Vr _) xS) h
     simpa using this
end nodes
theorem AO {P:Re}{g:aI}{h:Goal} (hg:GR P g h):∀l:List Re,GR P (eo l g) (gu l h)
 |[]=>hg
 |k::l=>.tree rfl (AO hg l)
theorem vZ {nc i s:Int}{h:Goal} (hk:GK nc i s h):∀l:List Re,(∀k∈l,k.every (vB nc)=true)→GK nc i s (gu l h)
 |[],_=>hk
 |k::l,hv=>⟨fun _=>hv k (by simp),fun h=>by omega,fun h=>by omega,fun h=>by omega,fun h=>by omega,vZ hk l (fun x hx=>hv x (by simp [hx]))⟩
section nodes
variable {P:Re}{t:List Int}{F:Int}{nc n:Nat} (X:Fx t F nc) (ih:OE P t F nc n)
include X ih
theorem Ja {ah:Int}{re:Re}{i:Int}{c:aq}{next:Goal}{st st':aU}{b:Bool}{base:Nat}{S:List ao}{m:aB}{r:aG}{n0 a:Int}{g:aI} (hM:MS P t F m S st.steps) (hS:SP F ah st) (hb:base≤S.length)
  (hr:ph P r=some re) (hg:GR P g next) (hv:re.every (vB nc)=true) (o4:re.op≠4) (hn:GK nc i st.steps next) (hi0:0≤i) (eK:i≤t.length) (hc:cr t c) (cI:c.length=nc)
  (h:(if (st.step F).empty then some (true,st.step F) else eQ t (eh t F n) ah re next i c (st.step F))=some (b,st')):gS P t F nc base S ah i m ⟨i,c,.mk 0 r n0 a g⟩ true st b st':=by
 have eB:=hS.s0
 have ga:=hS.s1
 have hF:=X.hF
 have Nv:c.length≤1000000000:=by rw[cI];exact X.nc
 have jm:=hM.cX (p:=⟨i,c,.mk 0 r n0 a g⟩) X.ht hF eB ga hi0 eK Nv
 have Mf:=fl hM hr
 obtain⟨⟨v1,v2,v3,v4,v5,v6,_⟩,fJ⟩:=bJ hv
 by_cases he:(st.step F).empty=true
 ·rw[if_pos he]at h
  cases h
  have FY:=hS.FZ he
  obtain⟨q1,q2,q3⟩:=sY hM FY
  refine gS.kA rfl (ft jm (y:=(m.step,.zero,false)) ⟨0,?_⟩) q3 (gS.out q1 q2 he hS.ah rfl rfl (by show st.steps≤st.steps+1;omega))
  unfold bj
  rw[Mf]
  simp only
  rw[if_neg (by omega),if_neg o4,if_pos (by rw[hM.steps,hM.fuel];exact FY)]
 rw[if_neg he]at h
 have he:(st.step F).empty=false:=by simpa using he
 obtain⟨aT,ow⟩:=hS.step he
 obtain⟨pY,yg,_⟩:=kZ hM aT
 have Sg:¬m.fuel≤m.steps:=by rw[hM.steps,hM.fuel];omega
 have Na:(st.step F).steps=st.steps+1:=rfl
 have ji:(st.step F).ends=st.ends:=rfl
 have Mz:(st.step F).ai=st.ai:=rfl
 rw[← Na]at pY
 generalize Rt:st.step F=s1 at *
 have kv:GK nc i s1.steps next:=hn.mono (Vr _) (by omega)
 have LG:m.step.t=t:=pY.t
 have dR:=hM.room
 -- K2 goals behind
 have go:∀(e:Int) (d:aq) (s2:aU) (m2:aB) (b2:Bool) (s3:aU),MS P t F m2 S s2.steps→SP F ah s2→s1.steps≤s2.steps→i≤e→e≤t.length→cr t d→d.length=nc→eh t F n ah (.run next e d) s2=some (b2,s3)→gS P t F nc base S ah e m2 ⟨e,d,g⟩ true s2 b2 s3:=by
  intro e d s2 m2 b2 s3 Ha OZ xS KH EI hd Bm eT
  exact ih ah _ s2 b2 s3 eT base S m2 _ Ha OZ hb ⟨rfl,rfl,hg⟩ (kv.mono KH xS) (by show (0:Int)≤e;omega) EI hd Bm
 have QM:∀(gb:aI) (hh:Goal) (b2:Bool) (s3:aU),GR P gb hh→GK nc i s1.steps hh→eh t F n ah (.run hh i c) s1=some (b2,s3)→gS P t F nc base S ah i m.step ⟨i,c,gb⟩ true s1 b2 s3:=by
  intro gb hh b2 s3 JK Ow eT
  exact ih ah _ s1 b2 s3 eT base S m.step _ pY ow hb ⟨rfl,rfl,JK⟩ Ow hi0 eK hc cI
 -- one move,then K2 rest
 have mv:∀(y:ao) (al:Bool),(∀rec,bj rec m r ⟨i,c,g⟩=some (m.step,y,al))→gS P t F nc base S ah i m.step y al s1 b st'→gS P t F nc base S ah i m ⟨i,c,.mk 0 r n0 a g⟩ true st b st':=fun y al R8 kx =>
  gS.kA rfl (ft jm ⟨0,R8 _⟩) yg (kx.dZ (Vr _) ji Mz (by omega))
 have dead:∀(y:ao),b=false→st'=s1→gS P t F nc base S ah i m.step y false s1 b st':=fun y xP hs=>by
  subst xP;subst hs
  exact gS.no pY ow.empty ow.ah ow.s1
 have kL:∀rec,bj rec m r ⟨i,c,g⟩=(let m:=m.step
   if re.op=1 then some (m,iW m.t re ⟨i,c,g⟩)
   else if re.op=2 then some (m,⟨i,c,eo re.kids g⟩,true)
   else if re.op=3 then some (m,iA ⟨i,c,g⟩ 1 r 0 0,true)
   else if re.op=5 then match re.kids with
    |[]=>none
    |kid::_=>some (m,iA (iA ⟨i,c,g⟩ 4 r 0 i) 0 (.el kid) 0 0,true)
   else if re.op=6 then match tb m.t re ⟨i,c,g⟩ with
    |none=>none
    |some x=>some (m,x)
   else if re.op=7∨re.op=8 then match re.kids with
    |[]=>none
    |kid::_=>eX rec m re kid ⟨i,c,g⟩
   else if re.op=9 then match re.kids with
    |[]=>none
    |kid::_=>fp rec m ⟨i,c,g⟩ (.mk 0 (.el kid) 0 0 .nil)
   else if re.op=10 then match re.kids with
    |yes::no::_=>if re.n<1∨(c.length:Int)<re.n then none else some (m,iA ⟨i,c,g⟩ 0 (.el (if 0≤(c.getD (re.n-1).toNat (-1,-1)).1 then yes else no)) 0 0,true)
    |_=>none
   else if re.op=11 then (if re.n<0∨5<re.n then none else some (m,⟨i,c,g⟩,bN re.n m.t i))
   else some (m,⟨i,c,g⟩,true)):=by
  intro rec
  unfold bj
  rw[Mf]
  simp only
  rw[if_neg (by omega),if_neg o4,if_neg Sg]
  rfl
 simp only at kL
 unfold eQ at h
 by_cases o1:re.op=1
 ·rw[if_pos o1]at h
  simp only[if_pos o1]at kL
  by_cases q:i<t.length∧oQ re.set (eH t i)=true
  ·rw[if_pos q]at h
   refine mv ⟨i+1,c,g⟩ true (fun rec=>?_) ((go (i+1) c s1 m.step b st' pY ow (Vr _) (by omega) (by omega) hc cI h).dZ (by omega) rfl rfl (Vr _))
   rw[kL rec]
   unfold iW
   rw[LG,if_pos q]
  ·rw[if_neg q]at h
   cases h
   refine mv .zero false (fun rec=>?_) (dead _ rfl rfl)
   rw[kL rec]
   unfold iW
   rw[LG,if_neg q]
 rw[if_neg o1]at h
 simp only[if_neg o1]at kL
 by_cases o2:re.op=2
 ·rw[if_pos o2]at h
  simp only[if_pos o2]at kL
  exact mv _ true kL (QM _ _ b st' (AO hg re.kids) (vZ kv re.kids fJ) h)
 rw[if_neg o2]at h
 simp only[if_neg o2]at kL
 by_cases o3:re.op=3
 ·rw[if_pos o3]at h
  simp only[if_pos o3]at kL
  refine mv _ true kL ?_
  exact FQ X ih hr hg hv hi0 eK hc cI re.kids 0 s1 S m.step 0 rfl (v1 (.inl o3)) pY ow (by omega) hb kv h
 rw[if_neg o3]at h
 simp only[if_neg o3]at kL
 by_cases o5:re.op=5
 ·rw[if_pos o5]at h
  simp only[if_pos o5]at kL
  cases hk:re.kids with
  |nil=>rw[hk]at h;cases h
  |cons kid l =>
   rw[hk]at h
   simp only[hk]at kL
   refine mv _ true kL (QM _ _ b st' (.tree rfl (.cap hr hg)) ?_ h)
   exact⟨fun _=>fJ kid (by rw[hk];simp),fun h=>by omega,fun h=>by omega,fun h=>by omega,fun h=>by omega,fun _=>hv,fun h=>by omega,fun h=>by omega,fun h=>by omega,fun _=>⟨o5,hi0,Vr _⟩,kv⟩
 rw[if_neg o5]at h
 simp only[if_neg o5]at kL
 by_cases o6:re.op=6
 ·rw[if_pos o6]at h
  simp only[if_pos o6]at kL
  simp only at h
  obtain⟨w1,w2⟩:=v5 (by omega)
  have eD:bo c re.n=c.getD (re.n-1).toNat (-1,-1):=by unfold bo;rw[if_neg (by omega)]
  have D6:=wQ hc re.n
  rw[eD]at h D6
  have Mn:tb t re ⟨i,c,g⟩=(let x:=c.getD (re.n-1).toNat (-1,-1)
    if x.1<0∨(t.length:Int)-i<x.2-x.1 then some (.zero,false) else if x.2<x.1∨(t.length:Int)<x.2 then none
    else if cO t x.1 i (x.2-x.1).toNat=true then some (⟨i+(x.2-x.1),c,g⟩,true) else some (.zero,false)):=by
   unfold tb
   rw[if_neg (by show ¬(re.n<1∨(c.length:Int)<re.n);omega)]
   simp only
   rw[if_neg]
   have ht:=X.ht
   rcases D6 with D6|D6
   ·rw[D6];simp
   ·omega
  rw[LG,Mn]at kL
  generalize c.getD (re.n-1).toNat (-1,-1)=x at *
  obtain⟨x1,x2⟩:=x
  simp only at h kL D6
  by_cases q1:x1<0
  ·rw[if_pos q1]at h
   simp only[if_pos (show x1<0∨(t.length:Int)-i<x2-x1 from .inl q1)]at kL
   cases h
   exact mv _ _ kL (dead _ rfl rfl)
  rw[if_neg q1]at h
  by_cases q2:x2<x1∨(t.length:Int)<x2
  ·rw[if_pos q2]at h;cases h
  rw[if_neg q2]at h
  by_cases q3:t.length<i+x2-x1
  ·rw[if_pos q3]at h
   simp only[if_pos (show x1<0∨(t.length:Int)-i<x2-x1 from .inr (by omega))]at kL
   cases h
   exact mv _ _ kL (dead _ rfl rfl)
  rw[if_neg q3]at h
  simp only[if_neg (show ¬(x1<0∨(t.length:Int)-i<x2-x1) by omega),if_neg q2]at kL
  by_cases q4:cO t x1 i (x2-x1).toNat=true
  ·rw[if_pos q4]at h
   simp only[if_pos q4]at kL
   have dv:i+x2-x1=i+(x2-x1):=by omega
   rw[dv]at h
   exact mv _ _ kL ((go (i+(x2-x1)) c s1 m.step b st' pY ow (Vr _) (by omega) (by omega) hc cI h).dZ (by omega) rfl rfl (Vr _))
  ·rw[if_neg q4]at h
   simp only[if_neg q4]at kL
   cases h
   exact mv _ _ kL (dead _ rfl rfl)
 rw[if_neg o6]at h
 simp only[if_neg o6]at kL
 by_cases o7:re.op=7∨re.op=8
 ·rw[if_pos o7]at h
  simp only[if_pos o7]at kL
  cases hk:re.kids with
  |nil=>rw[hk]at h;cases h
  |cons kid l =>
   rw[hk]at h
   simp only[hk]at kL
   simp only at h
   have sJ:kid.every (vB nc)=true:=fJ kid (by rw[hk];simp)
   -- K2 look
   cases gR:kN (eh t F n) re.op kid i c s1 with
   |none=>rw[gR]at h;cases h
   |some y =>
    obtain⟨ro,s2⟩:=y
    rw[gR]at h
    simp only at h
    have look:∃x,(∃k,eX (fun m base p=>aQ k true m base p true) m.step re kid ⟨i,c,g⟩=some x)∧CU P t F nc S re.neg ⟨i,c,g⟩ m.step s1 ro s2 x:=by
     unfold kN at gR
     unfold eX
     by_cases p7:re.op=7
     ·rw[if_pos p7]at gR
      have p8:¬re.op=8:=by omega
      simp only[if_neg p8,cw]
      have Nd:dK (fun k st=>cT (eh t F n) (.mk 0 kid 0 0 .nil) (i+k) c st) 1 s1=some (ro,s2):=by
       simp only[dK]
       rw[if_neg (by rw[ow.empty];exact V1)]
       cases hf:cT (eh t F n) (.mk 0 kid 0 0 .nil) i c s1 with
       |none=>rw[hf]at gR;cases gR
       |some z =>
        obtain⟨o,s3⟩:=z
        rw[hf]at gR
        rw[show i+((0:Nat):Int)=i by omega,hf]
        cases gR
        cases o with
        |none=>rfl
        |some e=>rfl
      exact uS ih (.tree rfl .nil) hc cI 1 m.step s1 s2 ro (fun q hq=>by omega) (fun q s _=>⟨fun _=>sJ,fun h=>by omega,fun h=>by omega,fun h=>by omega,fun h=>by omega,trivial⟩) pY ow.empty ow.s0 ow.s1 Nd
     ·rw[if_neg p7]at gR
      have p8:re.op=8:=by omega
      simp only[if_pos p8,cw]
      have Nd:dK (fun k st=>cT (eh t F n) (.mk 0 kid 0 0 (.mk 4 (.mk 0 [] [] 0 0 0 0 false) 0 i .nil)) (0+k) c st) (i.toNat+1) s1=some (ro,s2):=by
       have:(fun (k:Int) (st:aU)=>cT (eh t F n) (.mk 0 kid 0 0 (.mk 4 (.mk 0 [] [] 0 0 0 0 false) 0 i .nil)) (0+k) c st)=fun k st=>cT (eh t F n) (.mk 0 kid 0 0 (.mk 4 (.mk 0 [] [] 0 0 0 0 false) 0 i .nil)) k c st:=by
        funext k st;rw[Int.zero_add]
       rw[this];exact gR
      exact uS ih (.tree rfl (.oA .nil)) hc cI (i.toNat+1) m.step s1 s2 ro (fun q hq=>by omega) (fun q s _=>⟨fun _=>sJ,fun h=>by omega,fun h=>by omega,fun h=>by omega,fun h=>by omega,fun h=>absurd rfl h,fun h=>by omega,fun h=>by omega,fun h=>by omega,fun h=>by omega,trivial⟩) pY ow.empty ow.s0 ow.s1 Nd
    obtain⟨x,⟨k,UI⟩,p1,p2,p3,p4,p5,p6⟩:=look
    obtain⟨m2,p',G3⟩:=x
    simp only at p1 p2 p6
    refine gS.kA rfl (ft jm ⟨k,by rw[kL];exact UI⟩) (yg.trans p1) (gS.dZ (s0:=s2) ?_ (Vr _) (by rw[p4,ji]) (by rw[p5,Mz]) (by omega))
    have kK:0≤ah→(s2.ends.length:Int)<ah:=by rw[p4];exact ow.ah
    rcases p6 with ⟨e1,e2,rfl⟩|⟨e1,e2,e3,e4⟩
    ·rw[if_pos e1]at h
     cases h
     exact gS.out p2 e2 e1 kK rfl rfl (Vr _)
    ·rw[if_neg (by rw[e1];exact V1)]at h
     have OZ:SP F ah s2:=⟨e1,by have:=ow.s0;omega,e3,kK⟩
     rcases e4 with ⟨rfl,rfl,rfl⟩|⟨d,rfl,hd,Bm,e5⟩
     ·by_cases ca:re.neg=true
      ·rw[if_pos ca]at h
       rw[ca]
       exact go i c s2 m2 b st' e2 OZ p3 (Vr _) eK hc cI h
      ·rw[if_neg ca]at h
       have ca:re.neg=false:=by simpa using ca
       rw[ca]
       cases h
       exact gS.no e2 e1 kK e3
     ·rcases e5 with ⟨ca,rfl⟩|⟨ca,rfl,rfl⟩
      ·rw[if_pos ca]at h
       cases h
       exact gS.no e2 e1 kK e3
      ·rw[if_neg (by rw[ca];exact V1)]at h
       exact go i d s2 m2 b st' e2 OZ p3 (Vr _) eK hd Bm h
 rw[if_neg o7]at h
 simp only[if_neg o7]at kL
 by_cases o9:re.op=9
 ·rw[if_pos o9]at h
  simp only[if_pos o9]at kL
  cases hk:re.kids with
  |nil=>rw[hk]at h;cases h
  |cons kid l =>
   rw[hk]at h
   simp only[hk]at kL
   simp only at h
   have sJ:kid.every (vB nc)=true:=fJ kid (by rw[hk];simp)
   cases hf:cT (eh t F n) (.mk 0 kid 0 0 .nil) i c s1 with
   |none=>rw[hf]at h;cases h
   |some y =>
    obtain⟨o,s2⟩:=y
    rw[hf]at h
    simp only at h
    obtain⟨m2,rr,found,⟨k,eO⟩,k2,k3,k4,k5,k6,k7⟩:=uq ih (gb:=.mk 0 (.el kid) 0 0 .nil) pY ow.empty ow.s0 ow.s1 (.tree rfl .nil) ⟨fun _=>sJ,fun h=>by omega,fun h=>by omega,fun h=>by omega,fun h=>by omega,trivial⟩ hi0 eK hc cI hf
    have sC:fp (fun m base p=>aQ k true m base p true) m.step ⟨i,c,g⟩ (.mk 0 (.el kid) 0 0 .nil)=some (m2,{ rr with todo:=g },found):=by
     unfold fp
     rw[eO]
    refine gS.kA rfl (ft jm ⟨k,by rw[kL];exact sC⟩) (yg.trans k2) (gS.dZ (s0:=s2) ?_ (Vr _) (by rw[k5,ji]) (by rw[k6,Mz]) (by omega))
    have kK:0≤ah→(s2.ends.length:Int)<ah:=by rw[k5];exact ow.ah
    rcases k7 with ⟨j1,j2,j3,⟨rfl,e,d,rfl,rfl,l3,l4,l5,l6⟩|⟨rfl,rfl⟩⟩|⟨j1,j2,rfl,rfl⟩
    ·rw[if_neg (by rw[j1];exact V1)]at h
     simp only at h
     exact(go e d s2 m2 b st' j2 ⟨j1,by have:=ow.s0;omega,j3,kK⟩ k4 l3 l4 l5 l6 h).dZ l3 rfl rfl (Vr _)
    ·rw[if_neg (by rw[j1];exact V1)]at h
     cases h
     exact gS.no j2 j1 kK j3
    ·rw[if_pos j1]at h
     cases h
     exact gS.out k3 j2 j1 kK rfl rfl (Vr _)
 rw[if_neg o9]at h
 simp only[if_neg o9]at kL
 by_cases sg:re.op=10
 ·rw[if_pos sg]at h
  simp only[if_pos sg]at kL
  obtain⟨w1,w2⟩:=v5 (by omega)
  have eD:bo c re.n=c.getD (re.n-1).toNat (-1,-1):=by unfold bo;rw[if_neg (by omega)]
  rw[eD]at h
  match hk:re.kids with
  |[]=>rw[hk]at h;cases h
  |[_]=>rw[hk]at h;cases h
  |yes::no::l =>
   rw[hk]at h
   simp only[hk]at kL
   simp only at h
   simp only[if_neg (show ¬(re.n<1∨(c.length:Int)<re.n) by omega)]at kL
   refine mv _ _ kL (QM _ _ b st' (.tree rfl hg) ⟨fun _=>?_,fun h=>by omega,fun h=>by omega,fun h=>by omega,fun h=>by omega,kv⟩ h)
   split
   ·exact fJ yes (by rw[hk];simp)
   ·exact fJ no (by rw[hk];simp)
 rw[if_neg sg]at h
 simp only[if_neg sg]at kL
 by_cases wT:re.op=11
 ·rw[if_pos wT]at h
  simp only[if_pos wT]at kL
  obtain⟨w1,w2⟩:=v6 wT
  rw[LG]at kL
  simp only[if_neg (show ¬(re.n<0∨5<re.n) by omega)]at kL
  by_cases q:bN re.n t i=true
  ·rw[if_pos q]at h
   rw[q]at kL
   exact mv _ _ kL (QM _ _ b st' hg kv h)
  ·rw[if_neg q]at h
   have q:bN re.n t i=false:=by simpa using q
   rw[q]at kL
   cases h
   exact mv _ _ kL (dead _ rfl rfl)
 rw[if_neg wT]at h
 simp only[if_neg wT]at kL
 exact mv _ _ kL (QM _ _ b st' hg kv h)
end nodes
theorem iQ {nc:Int}{re:Re} (h:re.every (vB nc)=true) (m:Int):(re.bP m).every (vB nc)=true:=by
 rw[Re.cS]at h ⊢
 exact⟨h.1,h.2⟩
section all
variable {P:Re}{t:List Int}{F:Int}{nc:Nat} (X:Fx t F nc)
include X
theorem Lo {n:Nat} (ih:OE P t F nc n) {ah:Int}{h:Goal}{i:Int}{c:aq}{st st':aU}{b:Bool}{base:Nat}{S:List ao}{m:aB}{g:aI} (hM:MS P t F m S st.steps) (hS:SP F ah st) (hb:base≤S.length)
  (hg:GR P g h) (hk:GK nc i st.steps h) (hi0:0≤i) (eK:i≤t.length) (hc:cr t c) (cI:c.length=nc) (hr:b8 t F (eh t F n) ah (.run h i c) st=some (b,st')):gS P t F nc base S ah i m ⟨i,c,g⟩ true st b st':=by
 have eB:=hS.s0
 have ga:=hS.s1
 have Nv:c.length≤1000000000:=by rw[cI];exact X.nc
 have cX:∀gb,m.cX ⟨i,c,gb⟩:=fun gb=>hM.cX (p:=⟨i,c,gb⟩) X.ht X.hF eB ga hi0 eK Nv
 simp only[b8]at hr
 rw[if_neg (by omega)]at hr
 have same:∀(task:Task),task.pos=i→task.ai=c→(∀rec,rec=eh t F n→rec ah task st=some (b,st'))→TR P task ⟨i,c,g⟩→TK nc st.steps task→gS P t F nc base S ah i m ⟨i,c,g⟩ true st b st':=by
  intro task hp K8 eT htr yi
  have:=ih ah task st b st' (eT _ rfl) base S m _ hM hS hb htr yi (by rw[hp];exact hi0) (by rw[hp];exact eK) (by rw[K8];exact hc) (by rw[K8];exact cI)
  rwa [hp]at this
 cases hg with
 |nil =>
  simp only at hr
  split at hr
  case isFalse=>cases hr
  rename_i hlen
  obtain⟨wq,OR⟩:=hlen
  simp only[Option.some.injEq,Prod.mk.injEq]at hr
  obtain⟨K7,rfl⟩:=hr
  have oK:((st.ends++[i]).length:Int)=st.ends.length+1:=by simp
  cases b with
  |true =>
   simp only[VE,decide_eq_true_eq]at K7
   have:=hS.ah K7.1
   exact⟨[(i,c)],m,rfl,rfl,fun r hr=>by rw[List.mem_singleton.1 hr];exact⟨Vr _,eK,hc,cI⟩,.refl m,Vr _,.inr (.inl ⟨rfl,hS.empty,K7.1,by simp only[oK];omega,ga,[],[],i,c,by simpa using hM,rfl,.refl _ _ _⟩)⟩
  |false =>
   refine⟨[(i,c)],m,rfl,rfl,fun r hr=>by rw[List.mem_singleton.1 hr];exact⟨Vr _,eK,hc,cI⟩,.refl m,Vr _,.inl ⟨rfl,hS.empty,fun hm=>?_,hM,ga,.zero,.emit hM.aW (.refl _ _ _)⟩⟩
   have:=hS.ah hm
   simp only[oK]
   by_cases hle:ah≤(st.ends.length:Int)+1
   ·rw[decide_eq_true hm,decide_eq_true hle]at K7;cases K7
   ·omega
 |@tree r re n0 a k f g0 h0 vP AS =>
  simp only at hr
  rw[if_neg (by decide),if_neg (by decide),if_neg (by decide),if_neg (by decide)]at hr
  obtain⟨k1,k2,k3,k4,k5,k6⟩:=hk
  exact same (.node (.mk 0 re k f h0) i c) rfl rfl (fun rec fe=>by rw[fe];exact hr) ⟨rfl,rfl,r,n0,a,g0,rfl,vP,AS⟩ ⟨k1 (by decide),k6⟩
 |@round r re yv n0 a f g0 h0 vP Ot AS =>
  simp only at hr
  rw[if_pos trivial]at hr
  obtain⟨k1,k2,k3,k4,k5,k6⟩:=hk
  exact same (.rep (.mk 1 yv n0 f h0) i c) rfl rfl (fun rec fe=>by rw[fe];exact hr) ⟨rfl,rfl,.inr ⟨(k2 (.inl rfl)).2.1,r,re,a,g0,rfl,vP,Ot,AS⟩⟩ ⟨k1 (by decide),(k2 (.inl rfl)).1,(k2 (.inl rfl)).2.2,k3 rfl,k6⟩
 |@more r re yv n0 a f g0 h0 vP Ot ma AS =>
  simp only at hr
  rw[if_neg (by decide),if_pos trivial,if_neg (by omega)]at hr
  split at hr
  ·cases hr
  obtain⟨k1,k2,k3,k4,k5,k6⟩:=hk
  have:=k4 rfl
  obtain⟨l1,l2,l3⟩:=k2 (.inr rfl)
  exact same (.run (.mk 1 yv (n0+1) 0 h0) i c) rfl rfl (fun rec fe=>by rw[fe];exact hr) ⟨rfl,rfl,.round vP Ot AS⟩ ⟨fun _=>k1 (by decide),fun _=>⟨l1,l2,by omega⟩,fun _=>by omega,fun h=>by omega,fun h=>by omega,k6⟩
 |@vb r re yv n0 a g0 h0 vP Ot ma AS =>
  simp only at hr
  rw[if_neg (by decide),if_pos trivial]at hr
  obtain⟨k1,k2,k3,k4,k5,k6⟩:=hk
  have:=k4 rfl
  have hF:=X.hF
  obtain⟨l1,l2,l3⟩:=k2 (.inr rfl)
  have gg:=tH (cX (.mk 3 r (n0+1) a g0)) (by omega) (by omega)
  by_cases q:i=a
  ·rw[if_pos ⟨ma,q⟩]at hr
   rw[if_pos q]at gg
   cases hr
   exact gS.kA rfl gg (.refl m) (gS.no hM hS.empty hS.ah ga)
  ·rw[if_neg (by omega)]at hr
   rw[if_neg q]at gg
   split at hr
   ·cases hr
   refine gS.kA rfl gg (.refl m) ?_
   exact ih ah _ st b st' hr base S m _ hM hS hb ⟨rfl,rfl,.round vP Ot AS⟩ ⟨fun _=>k1 (by decide),fun _=>⟨l1,l2,by omega⟩,fun _=>by omega,fun h=>by omega,fun h=>by omega,k6⟩ hi0 eK hc cI
 |@cap r re a k g0 h0 vP AS =>
  simp only at hr
  rw[if_neg (by decide),if_neg (by decide),if_pos trivial,if_neg (by omega)]at hr
  obtain⟨k1,k2,k3,k4,k5,k6⟩:=hk
  obtain⟨o5,f0,f1⟩:=k5 rfl
  obtain⟨⟨_,_,_,_,v5,_,_⟩,_⟩:=bJ (k1 (by decide))
  obtain⟨w1,w2⟩:=v5 (.inl o5)
  have hw:jf c re.n a i=c.set (re.n-1).toNat (a,i):=by unfold jf;rw[if_pos ⟨w1,by omega⟩]
  obtain⟨c1,c2⟩:=cr.with (n:=re.n) hc f0 f1 eK
  rw[hw]at hr c1 c2
  refine gS.kA rfl (FU (cX _) (fl hM vP) w1 (by omega)) (.refl m) ?_
  exact ih ah _ st b st' hr base S m _ hM hS hb ⟨rfl,rfl,AS⟩ k6 hi0 eK c1 (by show (c.set _ _).length=nc;rw[c2];exact cI)
 |@oA r re a k g0 h0 AS =>
  simp only at hr
  rw[if_neg (by decide),if_neg (by decide),if_neg (by decide),if_pos trivial]at hr
  obtain⟨k1,k2,k3,k4,k5,k6⟩:=hk
  have gg:=rO (r:=r) (g:=g0) (a:=a) (cX _)
  by_cases q:i=a
  ·rw[if_pos q]at hr
   rw[decide_eq_true q]at gg
   refine gS.kA rfl gg (.refl m) ?_
   exact ih ah _ st b st' hr base S m _ hM hS hb ⟨rfl,rfl,AS⟩ k6 hi0 eK hc cI
  ·rw[if_neg q]at hr
   rw[decide_eq_false q]at gg
   cases hr
   exact gS.kA rfl gg (.refl m) (gS.no hM hS.empty hS.ah ga)
theorem L5 {n:Nat} (ih:OE P t F nc n) {ah:Int}{kind:Int}{re:Re}{k bO:Int}{next:Goal}{i:Int}{c:aq}{st st':aU}{b:Bool}{base:Nat}{S:List ao}{m:aB}{p:ao} (hM:MS P t F m S st.steps) (hS:SP F ah st) (hb:base≤S.length)
  (htr:TR P (.rep (.mk kind re k bO next) i c) p) (yi:TK nc st.steps (.rep (.mk kind re k bO next) i c)) (hi0:0≤i) (eK:i≤t.length) (hc:cr t c) (cI:c.length=nc) (hr:n8 F (eh t F n) ah re k next i c st=some (b,st')):gS P t F nc base S ah i m p true st b st':=by
 obtain⟨pa,pc,todo⟩:=p
 obtain⟨rfl,rfl,htr⟩:=htr
 obtain⟨v,o4,k0,k1,hk⟩:=yi
 have eB:=hS.s0
 have ga:=hS.s1
 rcases htr with ⟨hm,r,n0,a,g,M7,vP,AS⟩|⟨hm,r,rj,a,g,M7,vP,Ot,AS⟩
 ·simp only at M7
  subst M7
  unfold n8 at hr
  rw[if_pos hm]at hr
  have jm:=hM.cX (p:=⟨pa,pc,.mk 0 r n0 a g⟩) X.ht X.hF eB ga hi0 eK (by show pc.length≤_;rw[cI];exact X.nc)
  have Sj:(re.bP 0).mode≠2:=by simp [Re.bP,Re.mode]
  cases hf:cT (eh t F n) (.mk 1 (re.bP 0) 0 0 .nil) pa pc st with
  |none=>rw[hf]at hr;cases hr
  |some y =>
   obtain⟨o,s2⟩:=y
   rw[hf]at hr
   simp only at hr
   obtain⟨m2,rr,found,⟨kk,eO⟩,k2,k3,k4,k5,k6,k7⟩:=uq ih (gb:=.mk 2 r 0 0 .nil) hM hS.empty eB ga (.round vP (.inr ⟨hm,rfl⟩) .nil) ⟨fun _=>iQ v 0,fun _=>⟨o4,Sj,Vr _⟩,fun _=>eB,fun h=>by omega,fun h=>by omega,trivial⟩ hi0 eK hc cI hf
   have sC:fp (fun m base p=>aQ kk true m base p true) m ⟨pa,pc,g⟩ (.mk 2 r 0 0 .nil)=some (m2,{ rr with todo:=g },found):=by
    unfold fp
    rw[eO]
   obtain⟨⟨v1,v2,v3,v4,v5,v6,_⟩,fJ⟩:=bJ v
   refine gS.kA rfl (ft jm (y:=(m2,{ rr with todo:=g },found)) ⟨kk,?_⟩) k2 (gS.dZ (s0:=s2) ?_ (Vr _) k5 k6 k4)
   ·unfold bj
    rw[fl hM vP]
    simp only
    rw[if_neg (by omega),if_pos o4,if_pos hm]
    exact sC
   have kK:0≤ah→(s2.ends.length:Int)<ah:=by rw[k5];exact hS.ah
   rcases k7 with ⟨j1,j2,j3,⟨rfl,e,d,rfl,rfl,l3,l4,l5,l6⟩|⟨rfl,rfl⟩⟩|⟨j1,j2,rfl,rfl⟩
   ·simp only at hr
    have:=ih ah _ s2 b st' hr base S m2 ⟨e,d,g⟩ j2 ⟨j1,by omega,j3,kK⟩ hb ⟨rfl,rfl,AS⟩ (hk.mono l3 k4) (by show (0:Int)≤e;have:(0:Int)≤pa:=hi0;omega) l4 l5 l6
    exact this.dZ l3 rfl rfl (Vr _)
   ·simp only at hr
    cases hr
    rw[j1]
    exact gS.no j2 j1 kK j3
   ·simp only at hr
    cases hr
    rw[j1]
    exact gS.out k3 j2 j1 kK rfl rfl (Vr _)
 ·simp only at M7
  subst M7
  exact Ln X ih hM hS hb vP Ot AS v o4 hm k0 k1 hk hi0 eK hc cI hr
theorem Je {n:Nat} (ih:OE P t F nc n) {ah:Int}{kind:Int}{re:Re}{k bO:Int}{next:Goal}{i:Int}{c:aq}{st st':aU}{b:Bool}{base:Nat}{S:List ao}{m:aB}{p:ao} (hM:MS P t F m S st.steps) (hS:SP F ah st) (hb:base≤S.length)
  (htr:TR P (.node (.mk kind re k bO next) i c) p) (yi:TK nc st.steps (.node (.mk kind re k bO next) i c)) (hi0:0≤i) (eK:i≤t.length) (hc:cr t c) (cI:c.length=nc) (hr:b8 t F (eh t F n) ah (.node (.mk kind re k bO next) i c) st=some (b,st')):gS P t F nc base S ah i m p true st b st':=by
 obtain⟨pa,pc,todo⟩:=p
 obtain⟨rfl,rfl,r,n0,a,g,M7,vP,AS⟩:=htr
 simp only at M7
 subst M7
 obtain⟨v,hk⟩:=yi
 have eB:=hS.s0
 have ga:=hS.s1
 obtain⟨⟨v1,v2,v3,v4,v5,v6,_⟩,fJ⟩:=bJ v
 have hF:=X.hF
 simp only[b8]at hr
 have hi0:0≤pa:=hi0
 have eK:pa≤t.length:=eK
 have hc:cr t pc:=hc
 have cI:pc.length=nc:=cI
 rw[if_neg (by omega)]at hr
 by_cases o4:re.op=4
 ·rw[if_pos o4]at hr
  by_cases hm:re.mode=2
  ·exact ih ah _ st b st' hr base S m _ hM hS hb ⟨rfl,rfl,.inl ⟨hm,r,n0,a,g,rfl,vP,AS⟩⟩ ⟨v,o4,Vr _,eB,hk⟩ hi0 eK hc cI
  ·have jm:=hM.cX (p:=⟨pa,pc,.mk 0 r n0 a g⟩) X.ht X.hF eB ga hi0 eK (by show pc.length≤_;rw[cI];exact X.nc)
   refine gS.kA rfl (ft jm (y:=(m,⟨pa,pc,.mk 2 r 0 0 g⟩,true)) ⟨0,?_⟩) (.refl m) ?_
   ·unfold bj
    rw[fl hM vP]
    simp only
    rw[if_neg (by omega),if_pos o4,if_neg hm]
    rfl
   ·exact ih ah _ st b st' hr base S m _ hM hS hb ⟨rfl,rfl,.inr ⟨hm,r,re,0,g,rfl,vP,.inl ⟨rfl,hm⟩,AS⟩⟩ ⟨v,o4,Vr _,eB,hk⟩ hi0 eK hc cI
 ·rw[if_neg o4,if_neg (by rw[cI];have:=X.nc;omega),if_neg (by omega)]at hr
  exact Ja X ih hM hS hb vP AS v o4 hk hi0 eK hc cI hr
theorem Ge:∀n,OE P t F nc n
 |0=>fun _ _ _ _ _ h=>by cases h
 |n+1=>fun ah task st b st' h base S m p hM hS hb htr yi hi0 eK hc cI=>by
  have ih:=Ge n
  have h:b8 t F (eh t F n) ah task st=some (b,st'):=h
  cases task with
  |run g i c =>
   obtain⟨pa,pc,todo⟩:=p
   obtain⟨rfl,rfl,hg⟩:=htr
   exact Lo X ih hM hS hb hg yi hi0 eK hc cI h
  |rep g i c =>
   cases g with
   |nil=>exact htr.elim
   |mk kind re k bO next =>
    refine L5 X ih hM hS hb htr yi hi0 eK hc cI ?_
    simp only[b8]at h
    rw[if_neg (by have h1:0≤i:=hi0;have h2:i≤t.length:=eK;omega)]at h
    exact h
  |node g i c =>
   cases g with
   |nil=>exact htr.elim
   |mk kind re k bO next=>exact Je X ih hM hS hb htr yi hi0 eK hc cI h
end all
end Go.Proofs.Ytllagoeijcjpiaa
