/- A part of the proof (S20 S21 S22 S23 S24). -/
import Derived.Test.YtmihcpdhcillaaaGreatBG29
import Derived.Test.YtmihcpdhcillaaaGreatBG28
set_option linter.unusedSimpArgs false
set_option linter.unusedVariables false
set_option maxRecDepth 100000
set_option maxHeartbeats 80000000
namespace Go.Proofs.YtmihcpdhcillaaaGreat
open Go.VL Go.Proofs.Tryz
def Ag (m:bp) (base:Nat) (p:ai) (al:Bool) (m':bp) (r:ai) (f:Bool):Prop:=∃n,fG n (.inner base p al) m m' r f
def iJ (m:bp) (p:ai) (m':bp) (r:ai) (f:Bool):Prop:=∃n,fG n (.call p) m m' r f
theorem gH {m m1 m':bp}{base:Nat}{p p1 r:ai}{a1 f:Bool} (hp:p.todo≠.nil) (h1:iJ m p m1 p1 a1) (h2:Ag m1 base p1 a1 m' r f):Ag m base p true m' r f:=by
 obtain⟨k1,h1⟩:=h1
 obtain⟨k2,h2⟩:=h2
 exact⟨max k1 k2+1,.move (by omega) (by omega) hp h1 h2⟩
theorem qQ {m:bp}{base:Nat}{p:ai} (h:p.todo=.nil):Ag m base p true m p true:=⟨0,.done h⟩
theorem gP {m:bp}{base:Nat}{p:ai} (h:m.top≤base∨m.aK=true):Ag m base p false m .zero false:=⟨1,.dead (Xo 0) (.stop h)⟩
def gD (m:bp) (S:List ai):Prop:=m.cO.take m.top=S∧m.top=S.length
theorem gD.len {m:bp}{S:List ai} (h:gD m S):m.top≤m.cO.length:=by
 have:=congrArg List.length h.1
 rw[Xu,← h.2]at this
 omega
def bp.pop (m:bp):bp:={ m with top:=m.top-1 }
theorem gD.last {m:bp}{S:List ai}{q:ai} (h:gD m (S++[q])):m.cO[m.top-1]?=some q∧gD m.pop S:=by
 have hl:=h.len
 have ht:m.top=S.length+1:=by rw[h.2];simp
 have hg:(m.cO.take m.top)[m.top-1]?=some q:=by rw[h.1,ht];simp
 refine⟨by rw[Xr]at hg;rwa [if_pos (by omega)]at hg,?_,?_⟩
 ·show m.cO.take (m.top-1)=S
  have:m.cO.take (m.top-1)=(m.cO.take m.top).take (m.top-1):=by rw[List.take_take];congr 1;omega
  rw[this,h.1,ht];simp
 ·show m.top-1=S.length;omega
theorem gD.push {m:bp}{S:List ai} (h:gD m S) (q:ai):gD (m.push q) (S++[q]):=by
 refine⟨?_,?_⟩
 ·show (m.cO.take m.top++[q]).take (m.top+1)=_
  rw[h.1,Xv (by rw[W5,h.2];simp)]
 ·show m.top+1=_;rw[h.2];simp
theorem gD.cut {m:bp}{S S':List ai} (h:gD m (S++S')):gD { m with top:=S.length } S:=by
 have hl:=h.len
 have ht:=h.2
 rw[W5]at ht
 refine⟨?_,rfl⟩
 show m.cO.take S.length=S
 have:m.cO.take S.length=(m.cO.take m.top).take S.length:=by rw[List.take_take];congr 1;omega
 rw[this,h.1];simp
theorem F3 {m m':bp}{base:Nat}{p q r:ai}{S:List ai}{f:Bool} (hS:gD m (S++[q])) (hb:base≤S.length) (hm:m.top≤1000000000000) (hs:m.aK=false) (he:Ag m.pop base q true m' r f):Ag m base p false m' r f:=by
 obtain⟨k,hk⟩:=he
 have ht:m.top=S.length+1:=by rw[hS.2];simp
 exact⟨k+2,.dead (Xo _) (.pop (Xo _) (by omega) hS.len hm hs hS.last.1 hk)⟩
structure uZ (m m':bp):Prop where
 p:m'.p=m.p
 t:m'.t=m.t
 start:m'.start=m.start
 fuel:m'.fuel=m.fuel
theorem uZ.refl (m:bp):uZ m m:=⟨rfl,rfl,rfl,rfl⟩
theorem uZ.trans {m m1 m2:bp} (h:uZ m m1) (k:uZ m1 m2):uZ m m2:=⟨k.p.trans h.p,k.t.trans h.t,k.start.trans h.start,k.fuel.trans h.fuel⟩
theorem iq (m:bp):uZ m m.step:=by unfold bp.step;split <;> exact⟨rfl,rfl,rfl,rfl⟩
theorem kx (m:bp) (p:ai):uZ m (m.push p):=⟨rfl,rfl,rfl,rfl⟩
theorem wV (m:bp):uZ m m.pop:=⟨rfl,rfl,rfl,rfl⟩
theorem AT:∀(l:List Re) (p:ai) (m:bp),uZ m (rj l p m)
 |[],_,m=>.refl m
 |k::l,p,m=>(AT l p m).trans (kx (rj l p m) { p with todo:=.tree k [] p.todo })
inductive iL (base:Nat):bp→ai→Bool→List (Int×Option ar)→bp→ai→Bool→Prop where
 |refl (m:bp) (p:ai) (al:Bool):iL base m p al [] m p al
 |call {m m1 m':bp}{p p1 p':ai}{Ch mQ:Bool}{R:List (Int×Option ar)} (hp:p.todo≠.nil) (ha:iJ m p m1 p1 Ch) (h:iL base m1 p1 Ch R m' p' mQ):iL base m p true R m' p' mQ
 |pop {m m':bp}{p q p':ai}{S:List ai}{R:List (Int×Option ar)}{mQ:Bool} (hS:gD m (S++[q])) (hb:base≤S.length) (hm:m.top≤1000000000000) (hs:m.aK=false) (h:iL base m.pop q true R m' p' mQ):iL base m p false R m' p' mQ
 |emit {m m':bp}{i:Int}{c:Option ar}{p':ai}{R:List (Int×Option ar)}{mQ:Bool} (h:iL base m .zero false R m' p' mQ):iL base m ⟨i,c,.nil⟩ true ((i,c)::R) m' p' mQ
theorem iL.trans {base:Nat}{m m1 m2:bp}{p p1 p2:ai}{a a1 a2:Bool}{R R':List (Int×Option ar)} (h:iL base m p a R m1 p1 a1) (k:iL base m1 p1 a1 R' m2 p2 a2):iL base m p a (R++R') m2 p2 a2:=by
 induction h with
 |refl=>exact k
 |call hg ha _ ih=>exact .call hg ha (ih k)
 |pop hS hb hm hs _ ih=>exact .pop hS hb hm hs (ih k)
 |emit _ ih=>exact .emit (ih k)
theorem tI {base:Nat}{m m' m2:bp}{p p' r:ai}{a a' f:Bool}{R:List (Int×Option ar)} (h:iL base m p a R m' p' a') (hR:R=[]) (he:Ag m' base p' a' m2 r f):Ag m base p a m2 r f:=by
 induction h with
 |refl=>exact he
 |call hg ha _ ih=>exact gH hg ha (ih hR he)
 |pop hS hb hm hs _ ih=>exact F3 hS hb hm hs (ih hR he)
 |emit=>cases hR
def cj (c:ar):ar:=c++List.replicate (9-c.length) (-1,-1)
theorem jq {c:ar} (h:c.length≤9):(cj c).length=9:=by unfold cj;rw[W5,XD];omega
theorem K7 {c:ar}{k:Nat} (h:k<c.length) (x:Int×Int):(cj c).set k x=cj (c.set k x):=by
 unfold cj
 rw[List.set_append_left _ _ h,List.length_set]
theorem IY {c:ar}{k:Nat} (h:k<c.length):(cj c)[k]?=c[k]?:=by
 unfold cj
 rw[Xg h]
def N5 (re pC:Re):Prop:=(pC=re∧re.mode≠2)∨(re.mode=2∧pC=re.cq 0)
inductive vy:aF→Goal→Prop where
 |nil:vy .nil .nil
 |tree {re:Re}{ext:List D}{k f:Int}{g:aF}{h:Goal} (hg:vy g h):vy (.tree re ext g) (.mk 0 re k f h)
 |round {re pC:Re}{ext:List D}{n f:Int}{g:aF}{h:Goal} (ht:N5 re pC) (hg:vy g h):vy (.round re ext n g) (.mk 1 pC n f h)
 |more {re pC:Re}{ext:List D}{n f:Int}{g:aF}{h:Goal} (ht:N5 re pC) (hn:n<pC.mn) (hg:vy g h):vy (.round re ext (n+1) g) (.mk 2 pC n f h)
 |dv {re pC:Re}{ext:List D}{n a:Int}{g:aF}{h:Goal} (ht:N5 re pC) (hn:pC.mn≤n) (hg:vy g h):vy (.dv a re ext (n+1) g) (.mk 2 pC n a h)
 |fin {re:Re}{ext:List D}{a k:Int}{g:aF}{h:Goal} (hg:vy g h):vy (.fin a re ext g) (.mk 3 re k a h)
 |here {re:Re}{a k:Int}{c:Option ar}{u:aF}{g:aF}{h:Goal} (hg:vy g h):vy (.here a c u g) (.mk 4 re k a h)
def vS (nc:Int) (re:Re):Bool:=decide ((re.op=3∨re.op=4∨re.op=5∨re.op=7∨re.op=8∨re.op=9→re.kids≠[])∧(re.op=10→2≤re.kids.length)∧re.set.length≤1000000000∧re.kids.length≤1000 ∧
 (re.op=5∨re.op=6∨re.op=10→1≤re.n∧re.n≤nc)∧(re.op=11→0≤re.n∧re.n≤5)∧(re.op=4→-1≤re.mx)∧0≤re.op∧re.op≤11)
theorem ff {nc:Int}{re:Re} (h:re.every (vS nc)=true):((re.op=3∨re.op=4∨re.op=5∨re.op=7∨re.op=8∨re.op=9→re.kids≠[])∧(re.op=10→2≤re.kids.length)∧re.set.length≤1000000000∧re.kids.length≤1000 ∧
  (re.op=5∨re.op=6∨re.op=10→1≤re.n∧re.n≤nc)∧(re.op=11→0≤re.n∧re.n≤5)∧(re.op=4→-1≤re.mx)∧0≤re.op∧re.op≤11)∧∀k∈re.kids,k.every (vS nc)=true:=by
 obtain⟨h1,h2⟩:=(Re.ck re).1 h
 exact⟨of_decide_eq_true h1,h2⟩
def xP (nc i s:Int):Goal→Prop
 |.nil=>True
 |.mk kind re k cT next=>(kind≠4→re.every (vS nc)=true)∧(kind=1∨kind=2→re.op=4∧re.mode≠2∧0≤k)∧(kind=1→k≤s)∧(kind=2→k<s)∧(kind=3→re.op=5∧0≤cT∧cT≤i)∧xP nc i s next
theorem xP.mono {nc i i' s s':Int} (hi:i≤i') (hs:s≤s'):∀{g:Goal},xP nc i s g→xP nc i' s' g
 |.nil,_=>trivial
 |.mk _ _ _ _ _,h=>by
  obtain⟨h1,h2,h3,h4,h5,h6⟩:=h
  exact⟨h1,h2,fun k=>by have:=h3 k;omega,fun k=>by have:=h4 k;omega,fun k=>by have:=h5 k;exact⟨this.1,by omega⟩,h6.mono hi hs⟩
structure sW (t:List Int) (F:Int) (m:bp) (S:List ai) (s:Int):Prop where
 t:m.t=t
 fuel:m.fuel=F
 cO:gD m S
 steps:m.steps=s
 aK:m.aK=false
 room:(S.length:Int)≤1000*s
structure iY (t:List Int) (F:Int) (m:bp):Prop where
 t:m.t=t
 fuel:m.fuel=F
 aK:m.aK=true
 steps:F≤m.steps
 s0:0≤m.steps
 s1:m.steps≤100000000
 top:m.top≤m.cO.length
 EK:m.top≤1000000000000
def SK:aF→Prop
 |.nil=>True
 |.tree _ _ nx=>SK nx
 |.round _ _ _ nx=>SK nx
 |.dv _ _ _ _ nx=>SK nx
 |.fin _ re _ nx=>(1≤re.n∧re.n≤9)∧SK nx
 |.here _ _ _ nx=>SK nx
structure na (t:List Int) (p:ai):Prop where
 a0:0≤p.at_
 a1:p.at_≤t.length
 ak:∃c,p.ak=some c∧c.length=9
 todo:SK p.todo
theorem iY.cn {t:List Int}{F:Int}{m:bp}{p:ai} (h:iY t F m) (hp:na t p) (ht:t.length≤1000000):er m p :=
 ⟨h.s0,by have:=h.s1;omega,h.top,h.EK,hp.a0,by rw[h.t];exact hp.a1,by rw[h.t];exact ht⟩
theorem iY.step {t:List Int}{F:Int}{m:bp} (h:iY t F m):m.step=m:=by
 rw[mJ (by rw[h.fuel];exact h.steps)]
 have:=h.aK
 cases m
 simp only at this
 subst this
 rfl
theorem BR {t:List Int}{F:Int} (ht:t.length≤1000000) {base:Nat}:∀(g:aF) (m:bp) (x:Int) (c:Option ar),iY t F m→na t ⟨x,c,g⟩ →
  ∃m' r f,Ag m base ⟨x,c,g⟩ true m' r f∧iY t F m'∧uZ m m'∧(∀S,gD m S→gD m' S)∧(f=true→na t r)
 |.nil,m,x,c,hm,hp=>⟨m,_,true,qQ rfl,hm,.refl m,fun _ h=>h,fun _=>hp⟩
 |.tree re ext nx,m,x,c,hm,hp=>by
  have dead:∀{m1:bp}{p1:ai},iY t F m1→uZ m m1→(∀S,gD m S→gD m1 S)→iJ m ⟨x,c,.tree re ext nx⟩ m1 p1 false→∃m' r f,Ag m base ⟨x,c,.tree re ext nx⟩ true m' r f∧iY t F m'∧uZ m m'∧(∀S,gD m S→gD m' S)∧(f=true→na t r) :=
   fun h1 h2 h3 h4=>⟨_,.zero,false,gH (by simp) h4 (gP (.inr h1.aK)),h1,h2,h3,fun h=>by cases h⟩
  by_cases o4:re.op=4
  ·by_cases Eg:re.mode=2
   ·have hs:fG 0 (.search m.top) (m.push ⟨x,c,.round re ext 0 .nil⟩) (m.push ⟨x,c,.round re ext 0 .nil⟩) .zero false:=.stop (.inr hm.aK)
    have hlen:(m.push ⟨x,c,.round re ext 0 .nil⟩).top≤(m.push ⟨x,c,.round re ext 0 .nil⟩).cO.length:=by
     show m.top+1≤(m.cO.take m.top++[_]).length
     rw[W5,Xu]
     have:=hm.top
     simp;omega
    have hf:fG 1 (.first ⟨x,c,.round re ext 0 .nil⟩) m { (m.push ⟨x,c,.round re ext 0 .nil⟩) with top:=m.top } .zero false:=.first (Xo 0) hm.top hm.EK hs (Nat.le_succ _) hlen
    refine dead (m1:={ (m.push ⟨x,c,.round re ext 0 .nil⟩) with top:=m.top }) ⟨hm.t,hm.fuel,hm.aK,hm.steps,hm.s0,hm.s1,?_,hm.EK⟩ ⟨rfl,rfl,rfl,rfl⟩ (fun S hS=>?_) ⟨3,.rep (Xo 2) o4 (.Hy (p:=⟨x,c,nx⟩) (Xo 1) o4 Eg hf)⟩
    ·exact Nat.le_of_succ_le (show m.top+1≤(m.push ⟨x,c,.round re ext 0 .nil⟩).cO.length from hlen)
    ·refine⟨?_,hS.2⟩
     show (m.cO.take m.top++[_]).take m.top=S
     have:=hm.top
     rw[List.take_append_of_le_length (by rw[Xu];omega),List.take_take,Nat.min_self]
     exact hS.1
   ·
    have hg:er m ⟨x,c,.round re ext 0 nx⟩:=hm.cn ⟨hp.a0,hp.a1,hp.ak,hp.todo⟩ ht
    have h1:iJ m ⟨x,c,.tree re ext nx⟩ m ⟨x,c,.round re ext 0 nx⟩ true:=⟨1,.rep (Xo 0) o4 (.Pm (p:=⟨x,c,nx⟩) o4 Eg)⟩
    have h2:iJ m ⟨x,c,.round re ext 0 nx⟩ m.step .zero false:=⟨0,.nB hg (by rw[hm.fuel];exact hm.steps)⟩
    rw[hm.step]at h2
    exact⟨m,.zero,false,gH (by simp) h1 (gH (by simp) h2 (gP (.inr hm.aK))),hm,.refl m,fun _ h=>h,fun h=>by cases h⟩
  ·have h1:iJ m ⟨x,c,.tree re ext nx⟩ m.step .zero false:=⟨0,.wk (hm.cn hp ht) o4 (by rw[hm.fuel];exact hm.steps)⟩
   rw[hm.step]at h1
   exact dead hm (.refl m) (fun _ h=>h) h1
 |.round re ext k nx,m,x,c,hm,hp=>by
  have h2:iJ m ⟨x,c,.round re ext k nx⟩ m.step .zero false:=⟨0,.nB (hm.cn hp ht) (by rw[hm.fuel];exact hm.steps)⟩
  rw[hm.step]at h2
  exact⟨m,.zero,false,gH (by simp) h2 (gP (.inr hm.aK)),hm,.refl m,fun _ h=>h,fun h=>by cases h⟩
 |.dv y re ext k nx,m,x,c,hm,hp=>by
  by_cases Lo:x=y
  ·subst Lo
   exact⟨m,.zero,false,gH (by simp) ⟨0,.stay⟩ (gP (.inr hm.aK)),hm,.refl m,fun _ h=>h,fun h=>by cases h⟩
  ·have h2:fG 0 (.call ⟨x,c,.round re ext k nx⟩) m m.step .zero false:=.nB (hm.cn ⟨hp.a0,hp.a1,hp.ak,hp.todo⟩ ht) (by rw[hm.fuel];exact hm.steps)
   rw[hm.step]at h2
   exact⟨m,.zero,false,gH (by simp) ⟨1,.dv (Xo 0) Lo h2⟩ (gP (.inr hm.aK)),hm,.refl m,fun _ h=>h,fun h=>by cases h⟩
 |.fin y re ext nx,m,x,c,hm,hp=>by
  obtain⟨c',rfl,hl⟩:=(hp.ak:∃c',c=some c'∧c'.length=9)
  have hn:(1≤re.n∧re.n≤9)∧SK nx:=hp.todo
  obtain⟨m',r,f,k1,k2,k3,k4,k5⟩:=BR ht (base:=base) nx m x (some (c'.set (re.n-1).toNat (y,x))) hm ⟨hp.a0,hp.a1,⟨_,rfl,by rw[List.length_set];exact hl⟩,hn.2⟩
  exact⟨m',r,f,gH (by simp) ⟨0,.fin hl hn.1.1 hn.1.2⟩ k1,k2,k3,k4,k5⟩
 |.here y c' t' nx,m,x,c,hm,hp=>by
  by_cases Lo:x=y
  ·obtain⟨m',r,f,k1,k2,k3,k4,k5⟩:=BR ht (base:=base) nx m x c hm ⟨hp.a0,hp.a1,hp.ak,hp.todo⟩
   have hc:iJ m ⟨x,c,.here y c' t' nx⟩ m ⟨x,c,nx⟩ (decide (x=y)):=⟨0,.here⟩
   rw[decide_eq_true Lo]at hc
   exact⟨m',r,f,gH (by simp) hc k1,k2,k3,k4,k5⟩
  ·have hc:iJ m ⟨x,c,.here y c' t' nx⟩ m ⟨x,c,nx⟩ (decide (x=y)):=⟨0,.here⟩
   rw[decide_eq_false Lo]at hc
   exact⟨m,.zero,false,gH (by simp) hc (gP (.inr hm.aK)),hm,.refl m,fun _ h=>h,fun h=>by cases h⟩
def pR (r:Int×ar):Int×Option ar:=(r.1,some (cj r.2))
def ca (t:List Int) (F:Int) (nc:Nat) (base:Nat) (S:List ai) (ah i:Int) (m:bp) (p:ai) (al:Bool) (st:aQ) (b:Bool) (st':aQ):Prop :=
 ∃(R:List (Int×ar)) (m':bp),st'.ends=st.ends++R.map Prod.fst∧st'.ak=st.ak++R.map Prod.snd∧(∀r∈R,i≤r.1∧r.1≤t.length∧cJ t r.2∧r.2.length=nc)∧uZ m m' ∧
  ((b=false∧st'.empty=false∧(0≤ah→(st'.ends.length:Int)<ah)∧sW t F m' S st'.steps∧st'.steps≤F∧∃p',iL base m p al (R.map pR) m' p' false) ∨
   (b=true∧st'.empty=false∧0≤ah∧(st'.ends.length:Int)=ah∧st'.steps≤F∧∃(S':List ai) (R0:List (Int×ar)) (e:Int) (d:ar),sW t F m' (S++S') st'.steps∧R=R0++[(e,d)]∧iL base m p al (R0.map pR) m' ⟨e,some (cj d),.nil⟩ true) ∨
   (b=true∧st'.empty=true∧(0≤ah→(st'.ends.length:Int)<ah)∧iY t F m'∧∃(p':ai) (mQ:Bool) (S':List ai),gD m' (S++S')∧(mQ=true→na t p')∧iL base m p al (R.map pR) m' p' mQ))
section TO
variable {t:List Int}{F:Int}{nc base:Nat}{S:List ai}{ah i:Int}{m:bp}{p:ai}{st st':aQ}{b:Bool}
theorem ca.call {m1:bp}{p1:ai}{Ch:Bool} (hg:p.todo≠.nil) (ha:iJ m p m1 p1 Ch) (hp:uZ m m1) (h:ca t F nc base S ah i m1 p1 Ch st b st'):ca t F nc base S ah i m p true st b st':=by
 obtain⟨R,m',h1,h2,h3,h4,h6⟩:=h
 refine⟨R,m',h1,h2,h3,hp.trans h4,?_⟩
 rcases h6 with ⟨k1,k2,k3,k4,kF,p',k5⟩|⟨k1,k2,k3,k4,kF,S',R0,e,d,k5,k6,k7⟩|⟨k1,k2,k3,k4,p',mQ,S',k5,k6,k7⟩
 ·exact .inl ⟨k1,k2,k3,k4,kF,p',.call hg ha k5⟩
 ·exact .inr (.inl ⟨k1,k2,k3,k4,kF,S',R0,e,d,k5,k6,.call hg ha k7⟩)
 ·exact .inr (.inr ⟨k1,k2,k3,k4,p',mQ,S',k5,k6,.call hg ha k7⟩)
theorem ca.fi {al:Bool}{i':Int}{s0:aQ} (h:ca t F nc base S ah i' m p al s0 b st') (hi:i≤i') (h1:s0.ends=st.ends) (h2:s0.ak=st.ak):ca t F nc base S ah i m p al st b st':=by
 obtain⟨R,m',k1,k2,k3,k4,k6⟩:=h
 exact⟨R,m',by rw[k1,h1],by rw[k2,h2],fun r hr=>by have:=k3 r hr;exact⟨by omega,this.2⟩,k4,k6⟩
theorem ca.no (hM:sW t F m S st.steps) (he:st.empty=false) (hm:0≤ah→(st.ends.length:Int)<ah) (hF:st.steps≤F):ca t F nc base S ah i m p false st false st :=
 ⟨[],m,by simp,by simp,by simp,.refl m,.inl ⟨rfl,he,hm,hM,hF,p,.refl m p false⟩⟩
theorem ca.out {al:Bool}{s1:aQ} (hs:iY t F m) (hS:gD m S) (hl:al=true→na t p) (he:s1.empty=true) (hm:0≤ah→(st.ends.length:Int)<ah) (h1:s1.ends=st.ends) (h2:s1.ak=st.ak):ca t F nc base S ah i m p al st true s1 :=
 ⟨[],m,by simp [h1],by simp [h2],by simp,.refl m,.inr (.inr ⟨rfl,he,by rw[h1];exact hm,hs,p,al,[],by simpa using hS,hl,.refl m p al⟩)⟩
theorem ca.then {S1:List ai}{al:Bool}{s2:aQ} (h:ca t F nc base S1 ah i m p al st false s2)
  (hf:∀m2 p2,uZ m m2→sW t F m2 S1 s2.steps→s2.empty=false→s2.steps≤F→(0≤ah→(s2.ends.length:Int)<ah)→ca t F nc base S ah i m2 p2 false s2 b st'):ca t F nc base S ah i m p al st b st':=by
 obtain⟨R,m',h1,h2,h3,h4,h6⟩:=h
 rcases h6 with ⟨_,k2,k3,k4,kF,p',k5⟩|⟨k1,_⟩|⟨k1,_⟩
 ·obtain⟨R',m2,j1,j2,j3,j4,j6⟩:=hf m' p' h4 k4 k2 kF k3
  refine⟨R++R',m2,by rw[j1,h1];simp,by rw[j2,h2];simp,fun r hr=>?_,h4.trans j4,?_⟩
  ·rcases List.mem_append.1 hr with hr|hr
   ·exact h3 r hr
   ·exact j3 r hr
  ·rw[XC]
   rcases j6 with ⟨l1,l2,l3,l4,lF,Lp,l5⟩|⟨l1,l2,l3,l4,lF,S',R0,e,d,l5,l6,l7⟩|⟨l1,l2,l3,l4,Lp,mQ,S',l5,l6,l7⟩
   ·exact .inl ⟨l1,l2,l3,l4,lF,Lp,k5.trans l5⟩
   ·exact .inr (.inl ⟨l1,l2,l3,l4,lF,S',R++R0,e,d,l5,by rw[l6,Xx],by rw[XC];exact k5.trans l7⟩)
   ·exact .inr (.inr ⟨l1,l2,l3,l4,Lp,mQ,S',l5,l6,k5.trans l7⟩)
 ·cases k1
 ·cases k1
theorem ca.pop {q:ai}{S1:List ai}{s:Int} (hM:sW t F m (S1++[q]) s) (hb:base≤S1.length) (ht:m.top≤1000000000000) (h:ca t F nc base S ah i m.pop q true st b st'):ca t F nc base S ah i m p false st b st':=by
 obtain⟨R,m',h1,h2,h3,h4,h6⟩:=h
 refine⟨R,m',h1,h2,h3,(wV m).trans h4,?_⟩
 rcases h6 with ⟨k1,k2,k3,k4,kF,p',k5⟩|⟨k1,k2,k3,k4,kF,S',R0,e,d,k5,k6,k7⟩|⟨k1,k2,k3,k4,p',mQ,S',k5,k6,k7⟩
 ·exact .inl ⟨k1,k2,k3,k4,kF,p',.pop hM.cO hb ht hM.aK k5⟩
 ·exact .inr (.inl ⟨k1,k2,k3,k4,kF,S',R0,e,d,k5,k6,.pop hM.cO hb ht hM.aK k7⟩)
 ·exact .inr (.inr ⟨k1,k2,k3,k4,p',mQ,S',k5,k6,.pop hM.cO hb ht hM.aK k7⟩)
theorem ca.grow {S2:List ai}{al:Bool} (h:ca t F nc base (S++S2) ah i m p al st true st'):ca t F nc base S ah i m p al st true st':=by
 obtain⟨R,m',h1,h2,h3,h4,h6⟩:=h
 refine⟨R,m',h1,h2,h3,h4,?_⟩
 rcases h6 with ⟨k1,_⟩|⟨k1,k2,k3,k4,kF,S',R0,e,d,k5,k6,k7⟩|⟨k1,k2,k3,k4,p',mQ,S',k5,k6,k7⟩
 ·cases k1
 ·exact .inr (.inl ⟨k1,k2,k3,k4,kF,S2++S',R0,e,d,by rw[← Xx];exact k5,k6,k7⟩)
 ·exact .inr (.inr ⟨k1,k2,k3,k4,p',mQ,S2++S',by rw[← Xx];exact k5,k6,k7⟩)
theorem ca.same {p2:ai} (hn:p.todo≠.nil) (RK:p2.todo≠.nil) (hs:m.aK=false) (hc:∀m1 p1 a1,iJ m p m1 p1 a1→iJ m p2 m1 p1 a1) (h:ca t F nc base S ah i m p true st b st'):ca t F nc base S ah i m p2 true st b st':=by
 have key:∀{R:List (Int×Option ar)}{m':bp}{p':ai}{mQ:Bool},iL base m p true R m' p' mQ→(m'=m∧p'=p∧mQ=true)∨iL base m p2 true R m' p' mQ:=by
  intro R m' p' mQ hr
  cases hr with
  |refl=>exact .inl ⟨rfl,rfl,rfl⟩
  |call hp ha h=>exact .inr (.call RK (hc _ _ _ ha) h)
  |emit h=>exact absurd rfl hn
 obtain⟨R,m',h1,h2,h3,h4,h6⟩:=h
 refine⟨R,m',h1,h2,h3,h4,?_⟩
 rcases h6 with ⟨k1,k2,k3,k4,kF,p',k5⟩|⟨k1,k2,k3,k4,kF,S',R0,e,d,k5,k6,k7⟩|⟨k1,k2,k3,k4,p',mQ,S',k5,k6,k7⟩
 ·rcases key k5 with ⟨_,_,h⟩|h
  ·cases h
  ·exact .inl ⟨k1,k2,k3,k4,kF,p',h⟩
 ·rcases key k7 with ⟨_,h,_⟩|h
  ·exact absurd (by rw[← h]) hn
  ·exact .inr (.inl ⟨k1,k2,k3,k4,kF,S',R0,e,d,k5,k6,h⟩)
 ·rcases key k7 with ⟨h,_,_⟩|h
  ·rw[h]at k4;rw[k4.aK]at hs;cases hs
  ·exact .inr (.inr ⟨k1,k2,k3,k4,p',mQ,S',k5,k6,h⟩)
end TO
def uE (t:List Int) (F:Int) (nc:Nat) (S:List ai) (i:Int) (m:bp) (q:ai) (x:aQ):Prop :=
 ∃m1 r f,(∃k,fG k (.first q) m m1 r f)∧uZ m m1 ∧
  ((x.empty=false∧sW t F m1 S x.steps∧x.steps≤F∧((f=true∧∃e d,x.ends=[e]∧x.ak=[d]∧r=⟨e,some (cj d),.nil⟩∧i≤e∧e≤t.length∧cJ t d∧d.length=nc)∨(f=false∧x.ends=[]∧x.ak=[]))) ∨
   (x.empty=true∧iY t F m1∧gD m1 S∧(f=true→na t r)))
theorem EE {t:List Int}{F:Int}{nc:Nat}{S:List ai}{i:Int}{m:bp}{q:ai}{st:aQ}{b:Bool}{x:aQ} (ht:t.length≤1000000) (hM:sW t F m S st.steps) (hB:st.steps≤100000000)
  (h:∀m0,uZ m m0→sW t F m0 S st.steps→ca t F nc S.length S 1 i m0 q true st.sub b x):uE t F nc S i m q x:=by
 have pt:m.top=S.length:=hM.cO.2
 have fe:=hM.room
 have hlen:=hM.cO.len
 have pG:=hM.cO.push q
 have Uc:(m.push q).top=S.length+1:=by show m.top+1=_;omega
 have TE:sW t F (m.push q).pop S st.steps:=⟨hM.t,hM.fuel,pG.last.2,hM.steps,hM.aK,fe⟩
 obtain⟨R,m',h1,h2,h3,h4,h6⟩:=h (m.push q).pop ((kx m q).trans (wV _)) TE
 simp only[aQ.sub,WS]at h1 h2
 have fin:∀{m2:bp}{r:ai}{f:Bool}{S':List ai},Ag (m.push q).pop S.length q true m2 r f→gD m2 (S++S')→∃k,fG k (.first q) m { m2 with top:=m.top } r f:=by
  intro m2 r f S' he OI
  obtain⟨k,hk⟩:=he
  have y7:=OI.len
  have PU:=OI.2
  rw[W5]at PU
  refine⟨k+2,.first (Xo _) hlen (by omega) (.pop (Xo _) (by rw[Uc,pt];exact Xo _) pG.len (by rw[Uc];omega) hM.aK pG.last.1 ?_) (by omega) y7⟩
  rw[pt]
  exact hk
 have cut:∀{m2:bp}{S':List ai},gD m2 (S++S')→gD { m2 with top:=m.top } S:=by
  intro m2 S' OI
  rw[pt]
  exact OI.cut
 have fr:∀{m2:bp},uZ (m.push q).pop m2→uZ m { m2 with top:=m.top }:=fun hf=>⟨hf.p,hf.t,hf.start,hf.fuel⟩
 rcases h6 with ⟨k1,k2,k3,k4,kF,p',k5⟩|⟨k1,k2,k3,k4,kF,S',R0,e,d,k5,k6,k7⟩|⟨k1,k2,k3,k4,p',mQ,S',k5,k6,k7⟩
 ·
  have hx:x.ends=[]:=Xb (by have:=k3 (by omega);omega)
  have hR:R=[]:=by rw[h1]at hx;exact List.map_eq_nil_iff.1 hx
  subst hR
  have he:Ag (m.push q).pop S.length q true m' .zero false:=tI k5 rfl (gP (.inl (by rw[k4.cO.2];exact W4 _)))
  have Uw:gD m' (S++[]):=by simpa using k4.cO
  exact⟨_,_,_,fin he Uw,fr h4,.inl ⟨k2,⟨k4.t,k4.fuel,cut Uw,k4.steps,k4.aK,k4.room⟩,kF,.inr ⟨rfl,by simpa using h1,by simpa using h2⟩⟩⟩
 ·have Oh:R0=[]:=by
   have:=congrArg List.length h1
   rw[k6]at this
   simp at this
   exact Xb (by omega)
  subst Oh
  simp only[WS]at k6
  subst k6
  have he:Ag (m.push q).pop S.length q true m' ⟨e,some (cj d),.nil⟩ true:=tI k7 rfl (qQ rfl)
  have hr:=h3 (e,d) (by simp)
  have Mv:=k5.room
  rw[W5]at Mv
  exact⟨_,_,_,fin he k5.cO,fr h4,.inl ⟨k2,⟨k5.t,k5.fuel,cut k5.cO,k5.steps,k5.aK,by omega⟩,kF,.inl ⟨rfl,e,d,by simpa using h1,by simpa using h2,rfl,hr.1,hr.2.1,hr.2.2.1,hr.2.2.2⟩⟩⟩
 ·have hx:x.ends=[]:=Xb (by have:=k3 (by omega);omega)
  have hR:R=[]:=by rw[h1]at hx;exact List.map_eq_nil_iff.1 hx
  subst hR
  have SH:∀{m2:bp},iY t F m2→(∃S2,gD m2 (S++S2))→iY t F { m2 with top:=m.top }:=by
   intro m2 hs hS
   obtain⟨S2,hS⟩:=hS
   have h1:=hS.len
   have h2:=hS.2
   rw[W5]at h2
   exact⟨hs.t,hs.fuel,hs.aK,hs.steps,hs.s0,hs.s1,(X8 (by omega) h1:m.top≤m2.cO.length),(by show m.top≤1000000000000;omega)⟩
  cases mQ with
  |false =>
   have he:Ag (m.push q).pop S.length q true m' .zero false:=tI k7 rfl (gP (.inr k4.aK))
   exact⟨_,_,_,fin he k5,fr h4,.inr ⟨k2,SH k4 ⟨S',k5⟩,cut k5,fun h=>by cases h⟩⟩
  |true =>
   obtain⟨m2,r,f,j1,j2,j3,j4,j5⟩:=BR ht (base:=S.length) p'.todo m' p'.at_ p'.ak k4 (k6 rfl)
   have he:Ag (m.push q).pop S.length q true m2 r f:=tI k7 rfl j1
   exact⟨_,_,_,fin he (j4 _ k5),fr (h4.trans j3),.inr ⟨k2,SH j2 ⟨S',j4 _ k5⟩,cut (j4 _ k5),j5⟩⟩
theorem Kd {nc i s:Int} (Sy:nc≤9):∀{h:Goal}{g:aF},vy g h→xP nc i s h→SK g:=by
 intro h g hg
 induction hg with
 |nil=>intro _;exact trivial
 |tree _ ih=>intro hk;exact ih hk.2.2.2.2.2
 |round _ _ ih=>intro hk;exact ih hk.2.2.2.2.2
 |more _ _ _ ih=>intro hk;exact ih hk.2.2.2.2.2
 |dv _ _ _ ih=>intro hk;exact ih hk.2.2.2.2.2
 |fin _ ih =>
  intro hk
  have h5:=hk.2.2.2.2.1 rfl
  have hv:=(ff (hk.1 (by decide))).1.2.2.2.2.1 (.inl h5.1)
  exact⟨⟨hv.1,by omega⟩,ih hk.2.2.2.2.2⟩
 |here _ ih=>intro hk;exact ih hk.2.2.2.2.2
theorem DS {g:aF}{h:Goal} (hg:vy g h):∀l:List Re,vy (zQ l g) (iZ l h)
 |[]=>hg
 |k::l=>.tree (DS hg l)
theorem Dj {nc i s:Int}{h:Goal} (hk:xP nc i s h):∀l:List Re,(∀k∈l,k.every (vS nc)=true)→xP nc i s (iZ l h)
 |[],_=>hk
 |k::l,hv=>⟨fun _=>hv k (by simp),fun h=>by omega,fun h=>by omega,fun h=>by omega,fun h=>by omega,Dj hk l (fun x hx=>hv x (by simp [hx]))⟩
def ER (p:ai) (l:List Re):List ai:=(l.map fun k=>({ p with todo:=.tree k [] p.todo }:ai)).reverse
theorem zC (p:ai) (k:Re) (l:List Re):ER p (k::l)=ER p l++[{ p with todo:=.tree k [] p.todo }]:=by
 unfold ER;rw[WU,List.reverse_cons]
theorem C6 {p:ai}:∀(l:List Re) (m:bp) (S:List ai),gD m S→gD (rj l p m) (S++ER p l)
 |[],m,S,h=>by
  show gD m (S++[])
  rw[Xk];exact h
 |k::l,m,S,h=>by
  rw[zC,← Xx]
  exact(C6 l m S h).push { p with todo:=.tree k [] p.todo }
theorem J1 (p:ai) (l:List Re):(ER p l).length=l.length:=by unfold ER;simp
theorem Ad {p:ai}:∀(l:List Re) (m:bp),(rj l p m).steps=m.steps∧(rj l p m).aK=m.aK
 |[],m=>⟨rfl,rfl⟩
 |k::l,m=>Ad l m
structure UI (t:List Int) (nc:Nat):Prop where
 ht:t.length≤1000000
 nc:nc≤9
structure kz (t:List Int) (F:Int) (nc:Nat) (base:Nat) (S:List ai) (ah i:Int) (c:ar) (st:aQ):Prop where
 empty:st.empty=false
 s0:0≤st.steps
 s1:st.steps≤F
 ah:0≤ah→(st.ends.length:Int)<ah
 base:base≤S.length
 i0:0≤i
 i1:i≤t.length
 ak:cJ t c
 cl:c.length=nc
def Q6 (t:List Int) (F:Int) (nc:Nat) (ah:Int) (task:ETask) (st:aQ) (b:Bool) (st':aQ):Prop :=
 st'.steps≤100000000→∀(base:Nat) (S:List ai),match task with
  |.run h i c=>kz t F nc base S ah i c st→∀m g,sW t F m S st.steps→vy g h→xP nc i st.steps h→ca t F nc base S ah i m ⟨i,some (cj c),g⟩ true st b st'
  |.rep re k nx i c=>kz t F nc base S ah i c st→∀m g,sW t F m S st.steps→vy g nx→xP nc i st.steps nx→re.every (vS nc)=true→re.op=4→0≤k→k≤st.steps→∀ext,
    (re.mode=2→ca t F nc base S ah i m ⟨i,some (cj c),.tree re ext g⟩ true st b st')∧(re.mode≠2→∀nb,N5 nb re→ca t F nc base S ah i m ⟨i,some (cj c),.round nb ext k g⟩ true st b st')
  |.node re nx i c=>kz t F nc base S ah i c st→∀m g,sW t F m S st.steps→vy g nx→xP nc i st.steps nx→re.every (vS nc)=true→∀ext,ca t F nc base S ah i m ⟨i,some (cj c),.tree re ext g⟩ true st b st'
  |.body re nx i c=>kz t F nc base S ah i c st→∀m g,sW t F m S st.steps→vy g nx→xP nc i st.steps nx→re.every (vS nc)=true→re.op≠4→(S.length:Int)+1000≤1000*st.steps→∀ext,
    ∃m1 p1 a1,(∃k,fG k (.op re ext ⟨i,some (cj c),g⟩) m m1 p1 a1)∧uZ m m1∧ca t F nc base S ah i m1 p1 a1 st b st'
  |.alt l nx i c=>kz t F nc base S ah i c st→∀m g,vy g nx→xP nc i st.steps nx→(∀k∈l,k.every (vS nc)=true) →
    match l with
    |[]=>sW t F m S st.steps→∀p,ca t F nc base S ah i m p false st b st'
    |kid::l'=>sW t F m (S++ER ⟨i,some (cj c),g⟩ l') st.steps→ca t F nc base S ah i m ⟨i,some (cj c),.tree kid [] g⟩ true st b st'
  |.behind re kid nx i c j=>kz t F nc base S ah i c st→∀m g,sW t F m S st.steps→vy g nx→xP nc i st.steps nx→kid.every (vS nc)=true→(j:Int)≤i+1 →
    ∃m1 p1 a1,(∃k,fG k (.behind re kid ⟨i,some (cj c),g⟩ j) m m1 p1 a1)∧uZ m m1∧ca t F nc base S ah i m1 p1 a1 st b st'
theorem lp {t:List Int}{F:Int}{m:bp}{S:List ai}{s:Int} (hM:sW t F m S s) (h:s<F):sW t F m.step S (s+1)∧uZ m m.step:=by
 have hs:m.step={ m with steps:=m.steps+1 }:=ey (by rw[hM.steps,hM.fuel];exact h)
 refine⟨?_,iq m⟩
 rw[hs]
 exact⟨hM.t,hM.fuel,hM.cO,by show m.steps+1=_;rw[hM.steps],hM.aK,by have:=hM.room;omega⟩
theorem Ax {t:List Int}{F:Int}{m:bp}{S:List ai}{s:Int} (hM:sW t F m S s) (h:F≤s) (h0:0≤s) (hB:s≤100000000):iY t F m.step∧gD m.step S:=by
 have hs:m.step={ m with aK:=true }:=mJ (by rw[hM.steps,hM.fuel];exact h)
 have h1:=hM.steps
 have h2:=hM.cO.2
 have h3:=hM.room
 rw[hs]
 exact⟨⟨hM.t,hM.fuel,rfl,by show F≤m.steps;omega,by show 0≤m.steps;omega,by show m.steps≤_;omega,hM.cO.len,by show m.top≤_;omega⟩,hM.cO⟩
theorem tz {t:List Int}{F:Int}{m:bp}{S:List ai}{s:Int} (hM:sW t F m S s) (q:ai) (h:(S.length:Int)+1≤1000*s):sW t F (m.push q) (S++[q]) s :=
 ⟨hM.t,hM.fuel,hM.cO.push q,hM.steps,hM.aK,by rw[W5];simpa using h⟩
theorem Bm {t:List Int}{F:Int}{m:bp}{S:List ai}{q:ai}{s:Int} (hM:sW t F m (S++[q]) s):sW t F m.pop S s :=
 ⟨hM.t,hM.fuel,hM.cO.last.2,hM.steps,hM.aK,by have:=hM.room;rw[W5]at this;simp at this;omega⟩
theorem sW.cn {t:List Int}{F:Int}{m:bp}{S:List ai}{s:Int} (h:sW t F m S s) (ht:t.length≤1000000) (h0:0≤s) (hB:s≤100000000) {p:ai} (hi0:0≤p.at_) (e7:p.at_≤t.length):er m p:=by
 have h1:=h.steps
 have h2:=h.cO.2
 have h3:=h.room
 exact⟨by omega,by omega,h.cO.len,by omega,hi0,by rw[h.t];exact e7,by rw[h.t];exact ht⟩
theorem gl {F:Int}{st:aQ} (he:(st.step F).empty=false):st.empty=false∧st.steps<F:=by
 simp only[aQ.step,Bool.or_eq_false_iff,decide_eq_false_iff_not]at he
 exact⟨he.1,by omega⟩
theorem xc {F:Int}{st:aQ} (h:st.empty=false) (he:(st.step F).empty=true):F≤st.steps:=by
 simp only[aQ.step,h,Xj,decide_eq_true_eq]at he
 omega
theorem kz.step {t:List Int}{F:Int}{nc base:Nat}{S:List ai}{ah i:Int}{c:ar}{st:aQ} (h:kz t F nc base S ah i c st) (he:(st.step F).empty=false):kz t F nc base S ah i c (st.step F):=by
 have:=gl he
 have:=h.s0
 exact⟨he,by show 0≤st.steps+1;omega,by show st.steps+1≤F;omega,h.ah,h.base,h.i0,h.i1,h.ak,h.cl⟩
theorem kz.sub {t:List Int}{F:Int}{nc base:Nat}{S:List ai}{ah i:Int}{c:ar}{st:aQ} (h:kz t F nc base S ah i c st) {q:Int} (h0:0≤q) (h1:q≤t.length):kz t F nc S.length S 1 q c st.sub :=
 ⟨rfl,h.s0,h.s1,fun _=>by show ((0:Nat):Int)<1;omega,W4 _,h0,h1,h.ak,h.cl⟩
theorem kz.lJ {t:List Int}{F:Int}{nc base:Nat}{S:List ai}{ah i:Int}{c:ar}{st x:aQ} (h:kz t F nc base S ah i c st) (hx:x.empty=false) (hs:st.steps≤x.steps) (hF:x.steps≤F) {e:Int}{d:ar} (h0:i≤e) (h1:e≤t.length) (hd:cJ t d) (IJ:d.length=nc):kz t F nc base S ah e d (st.lJ x) :=
 ⟨hx,by show 0≤x.steps;have:=h.s0;omega,hF,h.ah,h.base,by have:=h.i0;omega,h1,hd,IJ⟩
theorem kz.on {t:List Int}{F:Int}{nc base:Nat}{S S':List ai}{ah i:Int}{c:ar}{st s2:aQ} (h:kz t F nc base S ah i c st) (he:s2.empty=false) (hs:st.steps≤s2.steps) (hF:s2.steps≤F) (hm:0≤ah→(s2.ends.length:Int)<ah) (hb:base≤S'.length):kz t F nc base S' ah i c s2 :=
 ⟨he,by have:=h.s0;omega,hF,hm,hb,h.i0,h.i1,h.ak,h.cl⟩
theorem N5.eqs {nb re:Re} (h:N5 nb re):nb.kids=re.kids∧nb.mn=re.mn∧nb.mx=re.mx∧(re.mode≠2→(nb.mode=1 ↔ re.mode=1)):=by
 rcases h with ⟨rfl,_⟩|⟨h2,rfl⟩
 ·exact⟨rfl,rfl,rfl,fun _=>Iff.rfl⟩
 ·refine⟨rfl,rfl,rfl,fun _=>?_⟩
  rw[h2];simp [Re.cq,Re.mode]
theorem sf {nc:Int}{re:Re} (h:re.every (vS nc)=true) (m:Int):(re.cq m).every (vS nc)=true:=by
 rw[Re.ck]at h ⊢
 exact⟨h.1,h.2⟩
theorem oc (re:Re) (m:Int):(re.cq m).mode=m:=rfl
section SY
variable {t:List Int}{F:Int}{nc:Nat} (X:UI t nc)
include X
theorem dD {h:Goal}{q:Int}{c:ar}{st x:aQ}{b:Bool}{base:Nat}{S:List ai}{ah i:Int}{m:bp}{g:aF} (ih:Q6 t F nc 1 (.run h q c) st.sub b x) (hB:st.steps≤100000000) (IM:x.steps≤100000000)
  (hP:kz t F nc base S ah i c st) (h0:0≤q) (h1:q≤t.length) (hM:sW t F m S st.steps) (hg:vy g h) (hk:xP nc q st.steps h):uE t F nc S q m ⟨q,some (cj c),g⟩ x :=
 EE X.ht hM hB fun m0 _ TE=>ih IM S.length S (hP.sub h0 h1) m0 g TE hg hk
theorem K5 {i:Int}{c:ar}{base:Nat}{S:List ai}{ah s:Int}{st:aQ}{h:Goal}{g:aF} (hP:kz t F nc base S ah i c st) (hg:vy g h) (hk:xP nc i s h):na t ⟨i,some (cj c),g⟩ :=
 ⟨hP.i0,hP.i1,⟨_,rfl,jq (by rw[hP.cl];exact X.nc)⟩,Kd (by have:=X.nc;omega) hg hk⟩
theorem sg {i q:Int}{c:ar}{base:Nat}{S:List ai}{ah:Int}{st x st':aQ}{b:Bool}{h:Goal}{g:aF}{m:bp}{p:ai}{p0:ai} (hn:p.todo≠.nil) (hP:kz t F nc base S ah i c st) (hg:vy g h) (hk:xP nc i st.steps h) (WC:i≤q) (aW:st.steps≤x.steps)
  (hf:uE t F nc S q m p0 x) (hc:∀m1 r f,(∃k,fG k (.first p0) m m1 r f)→iJ m p m1 { r with todo:=g } f)
  (hout:x.empty=true→b=true∧st'=st.lJ x) (jk:x.empty=false→x.ends=[]→b=false∧st'=st.lJ x)
  (hyes:∀e d,x.empty=false→x.ends=[e]→x.ak=[d]→i≤e→e≤t.length→cJ t d→d.length=nc→x.steps≤F→∀m1,sW t F m1 S x.steps→ca t F nc base S ah e m1 ⟨e,some (cj d),g⟩ true (st.lJ x) b st'):ca t F nc base S ah i m p true st b st':=by
 obtain⟨m1,r,f,k1,k2,k3⟩:=hf
 have nG:=hc m1 r f k1
 refine ca.call hn nG k2 (ca.fi (s0:=st.lJ x) (i':=i) ?_ (WW _) rfl rfl)
 rcases k3 with ⟨j1,j2,j3,⟨rfl,e,d,l1,l2,rfl,l3,l4,l5,l6⟩|⟨rfl,l1,l2⟩⟩|⟨j1,j2,j3,j4⟩
 ·exact(hyes e d j1 l1 l2 (by omega) l4 l5 l6 j3 m1 j2).fi (by omega) rfl rfl
 ·obtain⟨rfl,rfl⟩:=jk j1 l1
  exact ca.no j2 j1 hP.ah j3
 ·obtain⟨rfl,rfl⟩:=hout j1
  refine ca.out j2 j3 (fun hf=>?_) j1 hP.ah rfl rfl
  have:=j4 hf
  exact⟨this.a0,this.a1,this.ak,Kd (by have:=X.nc;omega) hg hk⟩
theorem jI {ah k i:Int}{re kid:Re}{l:List Re}{c:ar}{st:aQ}{base:Nat}{S:List ai} (hP:kz t F nc base S ah i c st) (hB:(st.step F).steps≤100000000) {m:bp}{g:aF} (hM:sW t F m S st.steps) (hv:re.every (vS nc)=true) (o4:re.op=4) (h0:0≤k) (h1:k≤st.steps) (ext:List D) {nb:Re} (hr:N5 nb re) (hm:re.mode≠2)
  (he:(st.step F).empty=false) (dN:re.kids=kid::l) :
  (k<re.mn→iJ m ⟨i,some (cj c),.round nb ext k g⟩ m.step ⟨i,some (cj c),.tree kid [] (.round nb ext (k+1) g)⟩ true) ∧
  (¬k<re.mn→¬(re.mx=-1∨k<re.mx)→iJ m ⟨i,some (cj c),.round nb ext k g⟩ m.step ⟨i,some (cj c),g⟩ true) ∧
  (¬k<re.mn→(re.mx=-1∨k<re.mx)→re.mode=1→iJ m ⟨i,some (cj c),.round nb ext k g⟩ (m.step.push ⟨i,some (cj c),.tree kid [] (.dv i nb ext (k+1) g)⟩) ⟨i,some (cj c),g⟩ true) ∧
  (¬k<re.mn→(re.mx=-1∨k<re.mx)→re.mode≠1→iJ m ⟨i,some (cj c),.round nb ext k g⟩ (m.step.push ⟨i,some (cj c),g⟩) ⟨i,some (cj c),.tree kid [] (.dv i nb ext (k+1) g)⟩ true):=by
 obtain⟨e1,e2,e3,e4⟩:=hr.eqs
 have aW:(st.step F).steps=st.steps+1:=rfl
 have hg:er m ⟨i,some (cj c),.round nb ext k g⟩:=hM.cn X.ht hP.s0 (by omega) hP.i0 hP.i1
 have hf:m.steps<m.fuel:=by rw[hM.steps,hM.fuel];exact(gl he).2
 have LH:nb.kids=kid::l:=by rw[e1];exact dN
 have Tm:=(ff hv).1.2.2.2.2.2.2.1 o4
 refine⟨fun hk=>?_,fun hk hx=>?_,fun hk hx ho=>?_,fun hk hx ho=>?_⟩
 ·exact⟨0,.w4 hg LH h0 (by omega) hf (by rw[e2];exact hk)⟩
 ·exact⟨0,.xw hg LH hf (by rw[e2];exact hk) (by rw[e3];omega) (by rw[e3];omega)⟩
 ·exact⟨0,.uQ hg LH h0 (by omega) hf (by rw[e2];exact hk) (by rw[e3];omega) ((e4 hm).2 ho)⟩
 ·exact⟨0,.uS hg LH h0 (by omega) hf (by rw[e2];exact hk) (by rw[e3];omega) (fun h=>ho ((e4 hm).1 h))⟩
end SY
theorem wh {nc:Nat}{k i s:Int}{re kid:Re}{l:List Re}{nx:Goal} (hv:re.every (vS nc)=true) (o4:re.op=4) (hm:re.mode≠2) (h0:0≤k) (h1:k<s) (dN:re.kids=kid::l) (hk:xP nc i s nx):xP nc i s (.mk 0 kid 0 0 (.mk 2 re k i nx)) :=
 ⟨fun _=>(ff hv).2 kid (by rw[dN];simp),fun h=>by omega,fun h=>by omega,fun h=>by omega,fun h=>by omega,fun _=>hv,fun _=>⟨o4,hm,h0⟩,fun h=>by omega,fun _=>h1,fun h=>by omega,hk⟩
theorem jG {nc:Nat}{i s:Int}{kid:Re}{nx:Goal} (hv:kid.every (vS nc)=true) (hk:xP nc i s nx):xP nc i s (.mk 0 kid 0 0 nx) :=
 ⟨fun _=>hv,fun h=>by omega,fun h=>by omega,fun h=>by omega,fun h=>by omega,hk⟩
theorem wm {nc:Nat}{q i s:Int}{kid:Re} (hv:kid.every (vS nc)=true):xP nc q s (.mk 0 kid 0 0 (xX i)) :=
 jG hv ⟨fun h=>absurd rfl h,fun h=>by omega,fun h=>by omega,fun h=>by omega,fun h=>by omega,trivial⟩
section SY
variable {t:List Int}{F:Int}{nc:Nat} (X:UI t nc)
include X
theorem Nq {ah i:Int}{re:Re}{c:ar}{st:aQ}{base:Nat}{S:List ai} (hP:kz t F nc base S ah i c st) (hv:re.every (vS nc)=true) (ho:re.op=5∨re.op=6∨re.op=10) :
  ∃x,1≤re.n∧bm c re.n=x∧(cj c)[(re.n-1).toNat]?=some x∧-1000000≤x.1∧-1000000≤x.2∧x.1≤1000000∧x.2≤1000000:=by
 obtain⟨w1,w2⟩:=(ff hv).1.2.2.2.2.1 ho
 have cK:=hP.cl
 have aS:(re.n-1).toNat<c.length:=by omega
 have dr:bm c re.n=c.getD (re.n-1).toNat (-1,-1):=by unfold bm;rw[if_neg (by omega)]
 have EV:=xM hP.ak re.n
 have ht:=X.ht
 refine⟨_,w1,rfl,?_,?_⟩
 ·rw[IY aS,dr,List.getD_eq_getElem?_getD,WZ aS];rfl
 ·rcases EV with EV|EV
  ·rw[EV];simp
  ·omega
theorem Mm {ah i:Int}{re:Re}{c:ar}{st:aQ}{base:Nat}{S:List ai} (hP:kz t F nc base S ah i c st) (hv:re.every (vS nc)=true) (ho:re.op=6) :
  ∃x,1≤re.n∧bm c re.n=x∧(cj c)[(re.n-1).toNat]?=some x∧-1000000≤x.1∧-1000000≤x.2∧x.1≤1000000∧x.2≤1000000:=Nq X hP hv (.inr (.inl ho))
theorem rS {ah i s:Int}{re:Re}{c:ar}{st:aQ}{base:Nat}{S:List ai}{nx:Goal}{g:aF}{r:ai}{f:Bool} (hP:kz t F nc base S ah i c st) (hg:vy g nx) (hk:xP nc i s nx) (hr:f=true→na t r) :
  (if re.neg=true then !f else f)=true→na t (mW re ⟨i,some (cj c),g⟩ r):=by
 intro h
 unfold mW
 by_cases hn:re.neg=true
 ·rw[if_pos hn];exact K5 X hP hg hk
 ·rw[if_neg hn]at h ⊢
  have h1:=K5 X hP hg hk
  exact⟨h1.a0,h1.a1,(hr h).ak,h1.todo⟩
theorem Tt {ah:Int}{task:ETask}{st st':aQ}{b:Bool} (h:dU t F ah task st b st'):Q6 t F nc ah task st b st':=by
 have SC:(nc:Int)≤9:=by have:=X.nc;omega
 induction h with
 |@found ah i c st h0 h1 hl Bf =>
  intro hB base S hP m g hM hg hk
  cases hg
  have zT:((st.ends++[i]).length:Int)=st.ends.length+1:=by simp
  cases hb:(decide (0≤ah)&&decide (ah≤(st.ends.length:Int)+1)) with
  |true =>
   simp only[W7,decide_eq_true_eq]at hb
   have:=hP.ah hb.1
   exact⟨[(i,c)],m,rfl,rfl,fun r hr=>by rw[List.mem_singleton.1 hr];exact⟨WW _,h1,hP.ak,hP.cl⟩,.refl m,.inr (.inl ⟨rfl,hP.empty,hb.1,by simp only[zT];omega,hP.s1,[],[],i,c,by simpa using hM,rfl,.refl _ _ _⟩)⟩
  |false =>
   refine⟨[(i,c)],m,rfl,rfl,fun r hr=>by rw[List.mem_singleton.1 hr];exact⟨WW _,h1,hP.ak,hP.cl⟩,.refl m,.inl ⟨rfl,hP.empty,fun hm=>?_,hM,hP.s1,.zero,.emit (.refl _ _ _)⟩⟩
   have:=hP.ah hm
   simp only[zT]
   by_cases hle:ah≤(st.ends.length:Int)+1
   ·rw[decide_eq_true hm,decide_eq_true hle]at hb;cases hb
   ·omega
 |tree jT od IQ Sq h0 h1 _ ih =>
  intro hB base S hP m g hM hg hk
  cases hg with
  |tree hg=>exact ih hB base S hP m _ hM hg hk.2.2.2.2.2 (hk.1 Sq) _
  |round=>exact absurd rfl jT
  |more=>exact absurd rfl od
  |dv=>exact absurd rfl od
  |fin=>exact absurd rfl IQ
  |here=>exact absurd rfl Sq
 |Gm h0 h1 _ ih =>
  intro hB base S hP m g hM hg hk
  cases hg with
  |round ht hg =>
   obtain⟨k1,k2,k3,k4,k5,k6⟩:=hk
   obtain⟨o4,hm,hk0⟩:=k2 (.inl rfl)
   exact(ih hB base S hP m _ hM hg k6 (k1 (by decide)) o4 hk0 (k3 rfl) _).2 hm _ ht
 |stay h0 h1 jT hi =>
  intro hB base S hP m g hM hg hk
  cases hg with
  |more ht hn hg=>omega
  |dv ht hn hg =>
   subst hi
   exact ca.call (by simp) ⟨0,.stay⟩ (.refl m) (ca.no hM hP.empty hP.ah hP.s1)
 |@iter ah k f i re nx c st st' b h0 h1 UW hk0 jT eX ih =>
  intro hB base S hP m g hM hg hk
  obtain⟨k1,k2,k3,k4,k5,k6⟩:=hk
  obtain⟨o4,hm,Wr⟩:=k2 (.inr rfl)
  have aS:=k4 rfl
  have sr:xP nc i st.steps (.mk 1 re (k+1) 0 nx):=⟨fun _=>k1 (by decide),fun _=>⟨o4,hm,by omega⟩,fun _=>by omega,fun h=>by omega,fun h=>by omega,k6⟩
  cases hg with
  |more ht hn hg=>exact ih hB base S hP m _ hM (.round ht hg) sr
  |@dv nb _ ext _ _ g0 _ ht hn hg =>
   have sA:=ih hB base S hP m _ hM (.round (ext:=ext) ht hg) sr
   refine ca.same (p:=⟨i,some (cj c),.round nb ext (k+1) g0⟩) (by simp) (by simp) hM.aK (fun m1 p1 a1 hc=>?_) sA
   obtain⟨n,hc⟩:=hc
   exact⟨n+1,.dv (Xo n) (fun h=>UW ⟨hn,h⟩) hc⟩
 |@save ah k f i re nx c st st' b h0 h1 eX ih =>
  intro hB base S hP m g hM hg hk
  obtain⟨k1,k2,k3,k4,k5,k6⟩:=hk
  obtain⟨o5,f0,f1⟩:=k5 rfl
  obtain⟨w1,w2⟩:=(ff (k1 (by decide))).1.2.2.2.2.1 (.inl o5)
  have cK:=hP.cl
  have hw:ku c re.n f i=c.set (re.n-1).toNat (f,i):=by unfold ku;rw[if_pos ⟨w1,by omega⟩]
  obtain⟨c1,c2⟩:=cJ.with (n:=re.n) hP.ak f0 f1 h1
  cases hg with
  |@fin _ ext _ _ g0 _ hg =>
   have nG:iJ m ⟨i,some (cj c),.fin f re ext g0⟩ m ⟨i,some ((cj c).set (re.n-1).toNat (f,i)),g0⟩ true:=⟨0,.fin (jq (by omega)) w1 (by omega)⟩
   rw[K7 (by omega),← hw]at nG
   exact ca.call (by simp) nG (.refl m) (ih hB base S ⟨hP.empty,hP.s0,hP.s1,hP.ah,hP.base,hP.i0,hP.i1,c1,by rw[c2];exact cK⟩ m _ hM hg k6)
 |@here ah k f i re nx c st st' b h0 h1 hi eX ih =>
  intro hB base S hP m g hM hg hk
  obtain⟨k1,k2,k3,k4,k5,k6⟩:=hk
  cases hg with
  |@here _ _ _ c' u g0 _ hg =>
   have nG:iJ m ⟨i,some (cj c),.here f c' u g0⟩ m ⟨i,some (cj c),g0⟩ (decide (i=f)):=⟨0,.here⟩
   rw[decide_eq_true hi]at nG
   exact ca.call (by simp) nG (.refl m) (ih hB base S hP m _ hM hg k6)
 |@gone ah k f i re nx c st h0 h1 hi =>
  intro hB base S hP m g hM hg hk
  cases hg with
  |@here _ _ _ c' u g0 _ hg =>
   have nG:iJ m ⟨i,some (cj c),.here f c' u g0⟩ m ⟨i,some (cj c),g0⟩ (decide (i=f)):=⟨0,.here⟩
   rw[decide_eq_false hi]at nG
   exact ca.call (by simp) nG (.refl m) (ca.no hM hP.empty hP.ah hP.s1)
 |@wB ah k i re nx c st x b hm eX hx ih =>
  intro hB base S hP m g hM hg hk hv o4 hk0 jT ext
  refine⟨fun _=>?_,fun h=>absurd hm h⟩
  have aW:st.steps≤x.steps:=eX.steps
  have IM:x.steps≤100000000:=hB
  have hf:=dD X ih (by omega) IM hP hP.i0 hP.i1 hM (g:=.round re ext 0 .nil) (.round (.inr ⟨hm,rfl⟩) .nil) ⟨fun _=>sf hv 0,fun _=>⟨o4,by rw[oc];decide,WW _⟩,fun _=>hP.s0,fun h=>by omega,fun h=>by omega,trivial⟩
  refine sg X (by simp) hP hg hk (WW _) aW hf (fun m1 r f hc=>?_) (fun _=>⟨rfl,rfl⟩) (fun h=>by rw[hx]at h;cases h) (fun e d h=>by rw[hx]at h;cases h)
  obtain⟨n,hc⟩:=hc
  exact⟨n+2,.rep (Xo _) o4 (.Hy (p:=⟨i,some (cj c),g⟩) (Xo n) o4 hm hc)⟩
 |@AO ah k i re nx c st x b hm eX hx he ih =>
  intro hB base S hP m g hM hg hk hv o4 hk0 jT ext
  refine⟨fun _=>?_,fun h=>absurd hm h⟩
  have aW:st.steps≤x.steps:=eX.steps
  have IM:x.steps≤100000000:=hB
  have hf:=dD X ih (by omega) IM hP hP.i0 hP.i1 hM (g:=.round re ext 0 .nil) (.round (.inr ⟨hm,rfl⟩) .nil) ⟨fun _=>sf hv 0,fun _=>⟨o4,by rw[oc];decide,WW _⟩,fun _=>hP.s0,fun h=>by omega,fun h=>by omega,trivial⟩
  refine sg X (by simp) hP hg hk (WW _) aW hf (fun m1 r f hc=>?_) (fun h=>by rw[hx]at h;cases h) (fun _ _=>⟨rfl,rfl⟩) (fun e d _ h=>by rw[he]at h;cases h)
  obtain⟨n,hc⟩:=hc
  exact⟨n+2,.rep (Xo _) o4 (.Hy (p:=⟨i,some (cj c),g⟩) (Xo n) o4 hm hc)⟩
 |@wR ah k i e re nx c d le ld st x st' b b' hm eX hx he hd pI ih fR =>
  intro hB base S hP m g hM hg hk hv o4 hk0 jT ext
  refine⟨fun _=>?_,fun h=>absurd hm h⟩
  have aW:st.steps≤x.steps:=eX.steps
  have Jg:x.steps≤st'.steps:=pI.steps
  have hf:=dD X ih (by omega) (by omega) hP hP.i0 hP.i1 hM (g:=.round re ext 0 .nil) (.round (.inr ⟨hm,rfl⟩) .nil) ⟨fun _=>sf hv 0,fun _=>⟨o4,by rw[oc];decide,WW _⟩,fun _=>hP.s0,fun h=>by omega,fun h=>by omega,trivial⟩
  refine sg X (by simp) hP hg hk (WW _) aW hf (fun m1 r f hc=>?_) (fun h=>by rw[hx]at h;cases h) (fun _ h=>by rw[he]at h;cases h) (fun e1 d1 _ l1 l2 l3 l4 l5 l6 lF m1 pK=>?_)
  ·obtain⟨n,hc⟩:=hc
   exact⟨n+2,.rep (Xo _) o4 (.Hy (p:=⟨i,some (cj c),g⟩) (Xo n) o4 hm hc)⟩
  ·rw[he]at l1;rw[hd]at l2
   cases l1;cases l2
   exact fR hB base S (hP.lJ hx aW lF l3 l4 l5 l6) m1 g pK hg (hk.mono l3 aW)
 |@AY ah k i re nx c st hm hs he =>
  intro hB base S hP m g hM hg hk hv o4 hk0 jT ext
  refine⟨fun h=>absurd h hm,fun _ nb hr=>?_⟩
  have Lr:st.steps+1≤100000000:=hB
  have hF:=xc hP.empty he
  obtain⟨q1,q2⟩:=Ax hM hF hP.s0 (by omega)
  exact ca.call (by simp) ⟨0,.nB (hM.cn X.ht hP.s0 (by omega) hP.i0 hP.i1) (by rw[hM.steps,hM.fuel];exact hF)⟩ (iq m) (ca.out q1 q2 (fun h=>by cases h) he hP.ah rfl rfl)
 |@BE ah k i re kid l nx c st st' b hm hs he dN Ei eX ih =>
  intro hB base S hP m g hM hg hk hv o4 hk0 jT ext
  refine⟨fun h=>absurd h hm,fun _ nb hr=>?_⟩
  have sm:=eX.steps
  have aW:(st.step F).steps=st.steps+1:=rfl
  obtain⟨pK,kM⟩:=lp hM (gl he).2
  have hc:=(jI X hP (by omega) hM (g:=g) hv o4 hk0 jT ext hr hm he dN).1 Ei
  refine ca.call (by simp) hc kM ((ih hB base S (hP.step he) _ _ pK (.tree (.more hr Ei hg)) (wh hv o4 hm hk0 (by omega) dN (hk.mono (WW _) (by omega)))).fi (WW _) rfl rfl)
 |@uu ah k i re kid l nx c st st' b hm hs he dN Ei hx eX ih =>
  intro hB base S hP m g hM hg hk hv o4 hk0 jT ext
  refine⟨fun h=>absurd h hm,fun _ nb hr=>?_⟩
  have sm:=eX.steps
  have aW:(st.step F).steps=st.steps+1:=rfl
  obtain⟨pK,kM⟩:=lp hM (gl he).2
  have hc:=(jI X hP (by omega) hM (g:=g) hv o4 hk0 jT ext hr hm he dN).2.1 Ei hx
  exact ca.call (by simp) hc kM ((ih hB base S (hP.step he) _ _ pK hg (hk.mono (WW _) (by omega))).fi (WW _) rfl rfl)
 |@FZ ah k i re kid l nx c st st' hm hs he dN Ei hx eX ih =>
  intro hB base S hP m g hM hg hk hv o4 hk0 jT ext
  refine⟨fun h=>by omega,fun ss nb hr=>?_⟩
  have sm:=eX.steps
  have aW:(st.step F).steps=st.steps+1:=rfl
  obtain⟨pK,kM⟩:=lp hM (gl he).2
  have hc:=(jI X hP (by omega) hM (g:=g) hv o4 hk0 jT ext hr ss he dN).2.2.1 Ei hx hm
  have rX:=tz pK ⟨i,some (cj c),.tree kid [] (.dv i nb ext (k+1) g)⟩ (by have:=hM.room;omega)
  have Ee:=(hP.step he).on (S':=S++[⟨i,some (cj c),.tree kid [] (.dv i nb ext (k+1) g)⟩]) he (WW _) (hP.step he).s1 (hP.step he).ah (by rw[W5];have:=hP.base;omega)
  exact ca.call (by simp) hc (kM.trans (kx _ _)) (ca.grow ((ih hB base _ Ee _ _ rX hg (hk.mono (WW _) (by omega))).fi (WW _) rfl rfl))
 |@F8 ah k i re kid l nx c st s2 st' b hm hs he dN Ei hx eX pI ih fR =>
  intro hB base S hP m g hM hg hk hv o4 hk0 jT ext
  refine⟨fun h=>by omega,fun ss nb hr=>?_⟩
  have sm:=eX.steps
  have Qs:=pI.steps
  have aW:(st.step F).steps=st.steps+1:=rfl
  obtain⟨pK,kM⟩:=lp hM (gl he).2
  have hc:=(jI X hP (by omega) hM (g:=g) hv o4 hk0 jT ext hr ss he dN).2.2.1 Ei hx hm
  have rX:=tz pK ⟨i,some (cj c),.tree kid [] (.dv i nb ext (k+1) g)⟩ (by have:=hM.room;omega)
  have Ee:=(hP.step he).on (S':=S++[⟨i,some (cj c),.tree kid [] (.dv i nb ext (k+1) g)⟩]) he (WW _) (hP.step he).s1 (hP.step he).ah (by rw[W5];have:=hP.base;omega)
  refine ca.call (by simp) hc (kM.trans (kx _ _)) (ca.fi (s0:=st.step F) ?_ (WW _) rfl rfl)
  refine ca.then (ih (by omega) base _ Ee _ _ rX hg (hk.mono (WW _) (by omega))) (fun m2 p2 sR MW s8 JC Pp=>?_)
  refine ca.pop MW hP.base (by have:=MW.room;have:=MW.cO.2;omega) ?_
  exact fR hB base S ((hP.step he).on s8 sm JC Pp hP.base) _ _ (Bm MW) (.tree (.dv hr (by omega) hg)) (wh hv o4 ss hk0 (by omega) dN (hk.mono (WW _) (by omega)))
 |@GG ah k i re kid l nx c st st' ss hm hs he dN Ei hx eX ih =>
  intro hB base S hP m g hM hg hk hv o4 hk0 jT ext
  refine⟨fun h=>absurd h ss,fun _ nb hr=>?_⟩
  have sm:=eX.steps
  have aW:(st.step F).steps=st.steps+1:=rfl
  obtain⟨pK,kM⟩:=lp hM (gl he).2
  have hc:=(jI X hP (by omega) hM (g:=g) hv o4 hk0 jT ext hr ss he dN).2.2.2 Ei hx hm
  have rX:=tz pK ⟨i,some (cj c),g⟩ (by have:=hM.room;omega)
  have Ee:=(hP.step he).on (S':=S++[⟨i,some (cj c),g⟩]) he (WW _) (hP.step he).s1 (hP.step he).ah (by rw[W5];have:=hP.base;omega)
  exact ca.call (by simp) hc (kM.trans (kx _ _)) (ca.grow ((ih hB base _ Ee _ _ rX (.tree (.dv hr (by omega) hg)) (wh hv o4 ss hk0 (by omega) dN (hk.mono (WW _) (by omega)))).fi (WW _) rfl rfl))
 |@FY ah k i re kid l nx c st s2 st' b ss hm hs he dN Ei hx eX pI ih fR =>
  intro hB base S hP m g hM hg hk hv o4 hk0 jT ext
  refine⟨fun h=>absurd h ss,fun _ nb hr=>?_⟩
  have sm:=eX.steps
  have Qs:=pI.steps
  have aW:(st.step F).steps=st.steps+1:=rfl
  obtain⟨pK,kM⟩:=lp hM (gl he).2
  have hc:=(jI X hP (by omega) hM (g:=g) hv o4 hk0 jT ext hr ss he dN).2.2.2 Ei hx hm
  have rX:=tz pK ⟨i,some (cj c),g⟩ (by have:=hM.room;omega)
  have Ee:=(hP.step he).on (S':=S++[⟨i,some (cj c),g⟩]) he (WW _) (hP.step he).s1 (hP.step he).ah (by rw[W5];have:=hP.base;omega)
  refine ca.call (by simp) hc (kM.trans (kx _ _)) (ca.fi (s0:=st.step F) ?_ (WW _) rfl rfl)
  refine ca.then (ih (by omega) base _ Ee _ _ rX (.tree (.dv hr (by omega) hg)) (wh hv o4 ss hk0 (by omega) dN (hk.mono (WW _) (by omega)))) (fun m2 p2 sR MW s8 JC Pp=>?_)
  refine ca.pop MW hP.base (by have:=MW.room;have:=MW.cO.2;omega) ?_
  exact fR hB base S ((hP.step he).on s8 sm JC Pp hP.base) _ _ (Bm MW) hg (hk.mono (WW _) (by omega))
 |@wA ah i re nx c st st' b ho h0 h1 eX ih =>
  intro hB base S hP m g hM hg hk hv ext
  by_cases hm:re.mode=2
  ·exact(ih hB base S hP m g hM hg hk hv ho (WW _) hP.s0 ext).1 hm
  ·refine ca.call (by simp) ⟨1,.rep (Xo 0) ho (.Pm (p:=⟨i,some (cj c),g⟩) ho hm)⟩ (.refl m) ?_
   exact(ih hB base S hP m g hM hg hk hv ho (WW _) hP.s0 ext).2 hm re (.inl ⟨rfl,hm⟩)
 |@wN ah i re nx c st ho hs he =>
  intro hB base S hP m g hM hg hk hv ext
  have Lr:st.steps+1≤100000000:=hB
  have hF:=xc hP.empty he
  obtain⟨q1,q2⟩:=Ax hM hF hP.s0 (by omega)
  exact ca.call (by simp) ⟨0,.wk (hM.cn X.ht hP.s0 (by omega) hP.i0 hP.i1) ho (by rw[hM.steps,hM.fuel];exact hF)⟩ (iq m) (ca.out q1 q2 (fun h=>by cases h) he hP.ah rfl rfl)
 |@node ah i re nx c st st' b ho hs he eX ih =>
  intro hB base S hP m g hM hg hk hv ext
  have sm:=eX.steps
  have aW:(st.step F).steps=st.steps+1:=rfl
  obtain⟨pK,kM⟩:=lp hM (gl he).2
  obtain⟨m1,p1,a1,⟨n,hn⟩,k2,k3⟩:=ih hB base S (hP.step he) m.step g pK hg (hk.mono (WW _) (by omega)) hv ho (by have:=hM.room;omega) ext
  exact ca.call (by simp) ⟨n+1,.tree (Xo n) (hM.cn X.ht hP.s0 (by omega) hP.i0 hP.i1) ho (by rw[hM.steps,hM.fuel];exact(gl he).2) hn⟩ (kM.trans k2) (k3.fi (WW _) rfl rfl)
 |@empty ah i re nx c st st' b ho eX ih =>
  intro hB base S hP m g hM hg hk hv o4 fe ext
  obtain⟨_,_,_,_,_,_,_,w1,w2⟩:=(ff hv).1
  have PK:re.op=0:=by simp at ho;omega
  exact⟨m,_,true,⟨0,.empty PK⟩,.refl m,ih hB base S hP m g hM hg hk⟩
 |@Bc ah i re nx c st st' b ho hi hs eX ih =>
  intro hB base S hP m g hM hg hk hv o4 fe ext
  have sm:=eX.steps
  obtain⟨_,_,w,_⟩:=(ff hv).1
  have tX:er m ⟨i,some (cj c),g⟩:=hM.cn X.ht hP.s0 (by omega) hP.i0 hP.i1
  refine⟨m,_,true,⟨0,.Ni ho tX w (by rw[hM.t];exact hi) (by rw[hM.t];exact hs)⟩,.refl m,?_⟩
  exact(ih hB base S ⟨hP.empty,hP.s0,hP.s1,hP.ah,hP.base,by have:=hP.i0;omega,by omega,hP.ak,hP.cl⟩ m g hM hg (hk.mono (by omega) (WW _))).fi (by omega) rfl rfl
 |@xK ah i re nx c st ho hn =>
  intro hB base S hP m g hM hg hk hv o4 fe ext
  obtain⟨_,_,w,_⟩:=(ff hv).1
  have tX:er m ⟨i,some (cj c),g⟩:=hM.cn X.ht hP.s0 hB hP.i0 hP.i1
  have jk:∀p:ai,ca t F nc base S ah i m p false st false st:=fun p=>ca.no hM hP.empty hP.ah hP.s1
  by_cases hi:i<t.length
  ·have hs:nn re.set (fX t i)=false:=by
    cases h:nn re.set (fX t i) with
    |true=>exact absurd ⟨hi,h⟩ hn
    |false=>rfl
   exact⟨m,_,false,⟨0,.xK ho tX w (by rw[hM.t];exact hi) (by rw[hM.t];exact hs)⟩,.refl m,jk _⟩
  ·exact⟨m,_,false,⟨0,.JA ho (by rw[hM.t];exact hi)⟩,.refl m,jk _⟩
 |@cat ah i re nx c st st' b ho eX ih =>
  intro hB base S hP m g hM hg hk hv o4 fe ext
  obtain⟨⟨_,_,_,w,_⟩,yz⟩:=ff hv
  exact⟨m,_,true,⟨0,.cat ho (by omega)⟩,.refl m,ih hB base S hP m _ hM (DS hg re.kids) (Dj hk re.kids yz)⟩
 |@alt ah i re nx c st st' b ho eX ih =>
  intro hB base S hP m g hM hg hk hv o4 fe ext
  have sm:=eX.steps
  obtain⟨⟨v1,_,_,w,_⟩,yz⟩:=ff hv
  have Up:=ih hB base S hP
  cases dN:re.kids with
  |nil=>exact absurd dN (v1 (.inl ho))
  |cons kid l =>
   rw[dN]at Up yz w
   simp only[W3]at w
   have tX:er m ⟨i,some (cj c),g⟩:=hM.cn X.ht hP.s0 (by omega) hP.i0 hP.i1
   have kM:=AT l ⟨i,some (cj c),g⟩ m
   obtain⟨e1,e2⟩:=Ad (p:=⟨i,some (cj c),g⟩) l m
   refine⟨_,_,true,⟨0,.alt ho dN (by rw[dN,W3];omega) tX⟩,kM,Up _ g hg hk yz ⟨by rw[kM.t];exact hM.t,by rw[kM.fuel];exact hM.fuel,C6 l m S hM.cO,by rw[e1];exact hM.steps,by rw[e2];exact hM.aK,?_⟩⟩
   rw[W5,J1]
   omega
 |@Bk ah i nx c st =>
  intro hB base S hP m g hg hk hv hM p
  exact ca.no hM hP.empty hP.ah hP.s1
 |@LP ah i kid l nx c st st' eX ih =>
  intro hB base S hP m g hg hk hv hM
  exact ca.grow (ih hB base _ (hP.on hP.empty (WW _) hP.s1 hP.ah (by rw[W5];have:=hP.base;omega)) m _ hM (.tree hg) (jG (hv kid (by simp)) hk))
 |@EI ah i kid l nx c st s2 st' b eX pI ih fR =>
  intro hB base S hP m g hg hk hv hM
  have sm:=eX.steps
  have Qs:=pI.steps
  refine ca.then (ih (by omega) base _ (hP.on hP.empty (WW _) hP.s1 hP.ah (by rw[W5];have:=hP.base;omega)) m _ hM (.tree hg) (jG (hv kid (by simp)) hk)) (fun m2 p2 sR rX s8 JC ss=>?_)
  have P4:=fR hB base S (hP.on s8 sm JC ss hP.base)
  cases l with
  |nil =>
   have rX:sW t F m2 (S++[]) s2.steps:=rX
   rw[Xk]at rX
   exact P4 m2 g hg (hk.mono (WW _) sm) (fun k hk=>by cases hk) rX p2
  |cons k2 l2 =>
   rw[zC,← Xx]at rX
   have Tx:=rX.room
   have U0:=rX.cO.2
   refine ca.pop rX (by rw[W5];have:=hP.base;omega) (by omega) ?_
   exact P4 _ g hg (hk.mono (WW _) sm) (fun k hk=>hv k (by simp [hk])) (Bm rX)
 |@cap ah i re kid l nx c st st' b ho dN eX ih =>
  intro hB base S hP m g hM hg hk hv o4 fe ext
  obtain⟨_,yz⟩:=ff hv
  refine⟨m,_,true,⟨0,.fx ho dN⟩,.refl m,ih hB base S hP m _ hM (.tree (.fin hg)) (jG (yz kid (by rw[dN];simp)) ?_)⟩
  exact⟨fun _=>hv,fun h=>by omega,fun h=>by omega,fun h=>by omega,fun _=>⟨ho,hP.i0,WW _⟩,hk⟩
 |@wH ah i re nx c st ho hx =>
  intro hB base S hP m g hM hg hk hv o4 fe ext
  obtain⟨x,w1,dr,Mi,hb⟩:=Mm X hP hv ho
  rw[dr]at hx
  have tX:er m ⟨i,some (cj c),g⟩:=hM.cn X.ht hP.s0 hB hP.i0 hP.i1
  exact⟨m,_,false,⟨0,.vg ho tX rfl (jq (by rw[hP.cl];exact X.nc)) w1 Mi hb (.inl hx)⟩,.refl m,ca.no hM hP.empty hP.ah hP.s1⟩
 |@wD ah i re nx c st ho hx eU h2 hl =>
  intro hB base S hP m g hM hg hk hv o4 fe ext
  obtain⟨x,w1,dr,Mi,hb⟩:=Mm X hP hv ho
  rw[dr]at hx eU h2 hl
  have tX:er m ⟨i,some (cj c),g⟩:=hM.cn X.ht hP.s0 hB hP.i0 hP.i1
  exact⟨m,_,false,⟨0,.vg ho tX rfl (jq (by rw[hP.cl];exact X.nc)) w1 Mi hb (.inr (by rw[hM.t];show (t.length:Int)-i<_;omega))⟩,.refl m,ca.no hM hP.empty hP.ah hP.s1⟩
 |@pe ah i re nx c st st' b ho hx eU h2 hl hs eX ih =>
  intro hB base S hP m g hM hg hk hv o4 fe ext
  have sm:=eX.steps
  obtain⟨⟨x1,x2⟩,w1,dr,Mi,hb⟩:=Mm X hP hv ho
  have hi0:=hP.i0
  rw[dr]at hx eU h2 hl hs
  simp only[dr]at ih
  simp only at hx eU h2 hl hs ih
  obtain⟨n1,rfl⟩:∃n:Nat,x1=n:=⟨x1.toNat,by omega⟩
  obtain⟨n2,rfl⟩:∃n:Nat,x2=n:=⟨x2.toNat,by omega⟩
  have tX:er m ⟨i,some (cj c),g⟩:=hM.cn X.ht hP.s0 (by omega) hP.i0 hP.i1
  have e1:((n2:Int)-(n1:Int)).toNat=n2-n1:=by omega
  have e2:i+(n2:Int)-(n1:Int)=i+((n2-n1:Nat):Int):=by omega
  rw[e1]at hs
  rw[e2]at ih
  have wI:=fG.pe (n:=0) (ext:=ext) (m:=m) (p:=⟨i,some (cj c),g⟩) ho tX rfl (jq (by rw[hP.cl];exact X.nc)) w1 Mi (by omega) (by rw[hM.t];omega) (by rw[hM.t];show i+_≤_;omega)
  rw[hM.t,hs,if_pos rfl]at wI
  refine⟨m,_,true,⟨0,wI⟩,.refl m,?_⟩
  exact(ih hB base S ⟨hP.empty,hP.s0,hP.s1,hP.ah,hP.base,by omega,by omega,hP.ak,hP.cl⟩ m g hM hg (hk.mono (by omega) (WW _))).fi (by omega) rfl rfl
 |@vg ah i re nx c st ho hx eU h2 hl hs =>
  intro hB base S hP m g hM hg hk hv o4 fe ext
  obtain⟨⟨x1,x2⟩,w1,dr,Mi,hb⟩:=Mm X hP hv ho
  have hi0:=hP.i0
  rw[dr]at hx eU h2 hl hs
  simp only at hx eU h2 hl hs
  obtain⟨n1,rfl⟩:∃n:Nat,x1=n:=⟨x1.toNat,by omega⟩
  obtain⟨n2,rfl⟩:∃n:Nat,x2=n:=⟨x2.toNat,by omega⟩
  have tX:er m ⟨i,some (cj c),g⟩:=hM.cn X.ht hP.s0 hB hP.i0 hP.i1
  have e1:((n2:Int)-(n1:Int)).toNat=n2-n1:=by omega
  rw[e1]at hs
  have wI:=fG.pe (n:=0) (ext:=ext) (m:=m) (p:=⟨i,some (cj c),g⟩) ho tX rfl (jq (by rw[hP.cl];exact X.nc)) w1 Mi (by omega) (by rw[hM.t];omega) (by rw[hM.t];show i+_≤_;omega)
  rw[hM.t,hs]at wI
  exact⟨m,_,false,⟨0,wI⟩,.refl m,ca.no hM hP.empty hP.ah hP.s1⟩
 |@cond ah i re yes no l nx c st st' b ho dN eX ih =>
  intro hB base S hP m g hM hg hk hv o4 fe ext
  obtain⟨_,yz⟩:=ff hv
  obtain⟨x,w1,dr,Mi,hb⟩:=Nq X hP hv (.inr (.inr ho))
  rw[dr]at ih
  refine⟨m,_,true,⟨0,.cond ho dN rfl (jq (by rw[hP.cl];exact X.nc)) w1 Mi⟩,.refl m,ih hB base S hP m _ hM (.tree hg) (jG ?_ hk)⟩
  split
  ·exact yz yes (by rw[dN];simp)
  ·exact yz no (by rw[dN];simp)
 |@qI ah i re nx c st st' b ho hh eX ih =>
  intro hB base S hP m g hM hg hk hv o4 fe ext
  have sm:=eX.steps
  obtain⟨_,_,_,_,_,w,_⟩:=(ff hv).1
  have tX:er m ⟨i,some (cj c),g⟩:=hM.cn X.ht hP.s0 (by omega) hP.i0 hP.i1
  have wI:=fG.assert (n:=0) (ext:=ext) ho tX (w ho).1 (w ho).2
  rw[hM.t,hh]at wI
  exact⟨m,_,true,⟨0,wI⟩,.refl m,ih hB base S hP m g hM hg hk⟩
 |@tv ah i re nx c st ho hh =>
  intro hB base S hP m g hM hg hk hv o4 fe ext
  obtain⟨_,_,_,_,_,w,_⟩:=(ff hv).1
  have tX:er m ⟨i,some (cj c),g⟩:=hM.cn X.ht hP.s0 hB hP.i0 hP.i1
  have wI:=fG.assert (n:=0) (ext:=ext) ho tX (w ho).1 (w ho).2
  rw[hM.t,hh]at wI
  exact⟨m,_,false,⟨0,wI⟩,.refl m,ca.no hM hP.empty hP.ah hP.s1⟩
 |@sM ah i re kid l nx c st x b ho dN eX hx ih =>
  intro hB base S hP m g hM hg hk hv o4 fe ext
  have aW:st.steps≤x.steps:=eX.steps
  have IM:x.steps≤100000000:=hB
  have oY:=(ff hv).2 kid (by rw[dN];simp)
  obtain⟨m1,r,f,⟨n,fY⟩,k2,k3⟩:=dD X ih (by omega) (by omega) hP hP.i0 hP.i1 hM (g:=.tree kid [] .nil) (.tree .nil) (jG oY trivial)
  refine⟨m1,_,_,⟨n+1,.ahead (p:=⟨i,some (cj c),g⟩) (Xo n) ho dN fY⟩,k2,ca.fi (s0:=st.lJ x) (i':=i) ?_ (WW _) rfl rfl⟩
  rcases k3 with ⟨j1,_⟩|⟨j1,j2,j3,j4⟩
  ·rw[hx]at j1;cases j1
  ·exact ca.out j2 j3 (rS X hP hg hk j4) j1 hP.ah rfl rfl
 |@wU ah i re kid l nx c st x b ho dN eX hx he hn ih =>
  intro hB base S hP m g hM hg hk hv o4 fe ext
  have aW:st.steps≤x.steps:=eX.steps
  have IM:x.steps≤100000000:=hB
  have oY:=(ff hv).2 kid (by rw[dN];simp)
  obtain⟨m1,r,f,⟨n,fY⟩,k2,k3⟩:=dD X ih (by omega) (by omega) hP hP.i0 hP.i1 hM (g:=.tree kid [] .nil) (.tree .nil) (jG oY trivial)
  refine⟨m1,_,_,⟨n+1,.ahead (p:=⟨i,some (cj c),g⟩) (Xo n) ho dN fY⟩,k2,ca.fi (s0:=st.lJ x) (i':=i) ?_ (WW _) rfl rfl⟩
  rcases k3 with ⟨j1,j2,j3,⟨rfl,e,d,l1,_⟩|⟨rfl,l1,l2⟩⟩|⟨j1,_⟩
  ·rw[he]at l1;cases l1
  ·rw[if_neg (by rw[hn];exact Xe)]
   exact ca.no j2 j1 hP.ah j3
  ·rw[hx]at j1;cases j1
 |@nW ah i re kid l nx c st x st' b b' ho dN eX hx he hn pI ih fR =>
  intro hB base S hP m g hM hg hk hv o4 fe ext
  have aW:st.steps≤x.steps:=eX.steps
  have Jg:x.steps≤st'.steps:=pI.steps
  have oY:=(ff hv).2 kid (by rw[dN];simp)
  obtain⟨m1,r,f,⟨n,fY⟩,k2,k3⟩:=dD X ih (by omega) (by omega) hP hP.i0 hP.i1 hM (g:=.tree kid [] .nil) (.tree .nil) (jG oY trivial)
  refine⟨m1,_,_,⟨n+1,.ahead (p:=⟨i,some (cj c),g⟩) (Xo n) ho dN fY⟩,k2,ca.fi (s0:=st.lJ x) (i':=i) ?_ (WW _) rfl rfl⟩
  rcases k3 with ⟨j1,j2,j3,⟨rfl,e,d,l1,_⟩|⟨rfl,l1,l2⟩⟩|⟨j1,_⟩
  ·rw[he]at l1;cases l1
  ·rw[if_pos hn]
   unfold mW
   rw[if_pos hn]
   exact fR hB base S (hP.lJ hx aW j3 (WW _) hP.i1 hP.ak hP.cl) m1 g j2 hg (hk.mono (WW _) aW)
  ·rw[hx]at j1;cases j1
 |@tL ah i e re kid l nx c d le ld st x st' b b' ho dN eX hx he hd hn pI ih fR =>
  intro hB base S hP m g hM hg hk hv o4 fe ext
  have aW:st.steps≤x.steps:=eX.steps
  have Jg:x.steps≤st'.steps:=pI.steps
  have oY:=(ff hv).2 kid (by rw[dN];simp)
  obtain⟨m1,r,f,⟨n,fY⟩,k2,k3⟩:=dD X ih (by omega) (by omega) hP hP.i0 hP.i1 hM (g:=.tree kid [] .nil) (.tree .nil) (jG oY trivial)
  refine⟨m1,_,_,⟨n+1,.ahead (p:=⟨i,some (cj c),g⟩) (Xo n) ho dN fY⟩,k2,ca.fi (s0:=st.lJ x) (i':=i) ?_ (WW _) rfl rfl⟩
  rcases k3 with ⟨j1,j2,j3,⟨rfl,e1,d1,l1,l2,rfl,l3,l4,l5,l6⟩|⟨rfl,l1,l2⟩⟩|⟨j1,_⟩
  ·rw[he]at l1;rw[hd]at l2
   cases l1;cases l2
   rw[if_neg (by rw[hn];exact Xe)]
   unfold mW
   rw[if_neg (by rw[hn];exact Xe)]
   exact fR hB base S (hP.lJ hx aW j3 (WW _) hP.i1 l5 l6) m1 g j2 hg (hk.mono (WW _) aW)
  ·rw[he]at l1;cases l1
  ·rw[hx]at j1;cases j1
 |@mT ah i e re kid l nx c d le ld st x b ho dN eX hx he hd hn ih =>
  intro hB base S hP m g hM hg hk hv o4 fe ext
  have aW:st.steps≤x.steps:=eX.steps
  have IM:x.steps≤100000000:=hB
  have oY:=(ff hv).2 kid (by rw[dN];simp)
  obtain⟨m1,r,f,⟨n,fY⟩,k2,k3⟩:=dD X ih (by omega) (by omega) hP hP.i0 hP.i1 hM (g:=.tree kid [] .nil) (.tree .nil) (jG oY trivial)
  refine⟨m1,_,_,⟨n+1,.ahead (p:=⟨i,some (cj c),g⟩) (Xo n) ho dN fY⟩,k2,ca.fi (s0:=st.lJ x) (i':=i) ?_ (WW _) rfl rfl⟩
  rcases k3 with ⟨j1,j2,j3,⟨rfl,e1,d1,l1,l2,rfl,l3,l4,l5,l6⟩|⟨rfl,l1,l2⟩⟩|⟨j1,_⟩
  ·rw[if_pos hn]
   exact ca.no j2 j1 hP.ah j3
  ·rw[he]at l1;cases l1
  ·rw[hx]at j1;cases j1
 |@wE ah i re kid l nx c st x b ho dN eX hx ih =>
  intro hB base S hP m g hM hg hk hv o4 fe ext
  have aW:st.steps≤x.steps:=eX.steps
  have IM:x.steps≤100000000:=hB
  have oY:=(ff hv).2 kid (by rw[dN];simp)
  obtain⟨m1,r,f,⟨n,fY⟩,k2,k3⟩:=dD X ih (by omega) (by omega) hP hP.i0 hP.i1 hM (g:=.tree kid [] .nil) (.tree .nil) (jG oY trivial)
  refine⟨m1,_,_,⟨n+1,.atom (p:=⟨i,some (cj c),g⟩) (Xo n) ho dN fY⟩,k2,ca.fi (s0:=st.lJ x) (i':=i) ?_ (WW _) rfl rfl⟩
  rcases k3 with ⟨j1,_⟩|⟨j1,j2,j3,j4⟩
  ·rw[hx]at j1;cases j1
  ·refine ca.out j2 j3 (fun hf=>?_) j1 hP.ah rfl rfl
   have:=j4 hf
   exact⟨this.a0,this.a1,this.ak,Kd SC hg hk⟩
 |@AL ah i re kid l nx c st x b ho dN eX hx he ih =>
  intro hB base S hP m g hM hg hk hv o4 fe ext
  have aW:st.steps≤x.steps:=eX.steps
  have IM:x.steps≤100000000:=hB
  have oY:=(ff hv).2 kid (by rw[dN];simp)
  obtain⟨m1,r,f,⟨n,fY⟩,k2,k3⟩:=dD X ih (by omega) (by omega) hP hP.i0 hP.i1 hM (g:=.tree kid [] .nil) (.tree .nil) (jG oY trivial)
  refine⟨m1,_,_,⟨n+1,.atom (p:=⟨i,some (cj c),g⟩) (Xo n) ho dN fY⟩,k2,ca.fi (s0:=st.lJ x) (i':=i) ?_ (WW _) rfl rfl⟩
  rcases k3 with ⟨j1,j2,j3,⟨rfl,e,d,l1,_⟩|⟨rfl,l1,l2⟩⟩|⟨j1,_⟩
  ·rw[he]at l1;cases l1
  ·exact ca.no j2 j1 hP.ah j3
  ·rw[hx]at j1;cases j1
 |@wT ah i e re kid l nx c d le ld st x st' b b' ho dN eX hx he hd pI ih fR =>
  intro hB base S hP m g hM hg hk hv o4 fe ext
  have aW:st.steps≤x.steps:=eX.steps
  have Jg:x.steps≤st'.steps:=pI.steps
  have oY:=(ff hv).2 kid (by rw[dN];simp)
  obtain⟨m1,r,f,⟨n,fY⟩,k2,k3⟩:=dD X ih (by omega) (by omega) hP hP.i0 hP.i1 hM (g:=.tree kid [] .nil) (.tree .nil) (jG oY trivial)
  refine⟨m1,_,_,⟨n+1,.atom (p:=⟨i,some (cj c),g⟩) (Xo n) ho dN fY⟩,k2,ca.fi (s0:=st.lJ x) (i':=i) ?_ (WW _) rfl rfl⟩
  rcases k3 with ⟨j1,j2,j3,⟨rfl,e1,d1,l1,l2,rfl,l3,l4,l5,l6⟩|⟨rfl,l1,l2⟩⟩|⟨j1,_⟩
  ·rw[he]at l1;rw[hd]at l2
   cases l1;cases l2
   exact(fR hB base S (hP.lJ hx aW j3 l3 l4 l5 l6) m1 g j2 hg (hk.mono l3 aW)).fi l3 rfl rfl
  ·rw[he]at l1;cases l1
  ·rw[hx]at j1;cases j1
 |@behind ah i re kid l nx c st st' b ho dN he eX ih =>
  intro hB base S hP m g hM hg hk hv o4 fe ext
  have oY:=(ff hv).2 kid (by rw[dN];simp)
  have hi0:=hP.i0
  have e7:=hP.i1
  have ht:=X.ht
  obtain⟨m1,p1,a1,⟨n,hn⟩,k2,k3⟩:=ih hB base S hP m g hM hg hk oY (by omega)
  exact⟨m1,p1,a1,⟨n+1,.behind (p:=⟨i,some (cj c),g⟩) (Xo n) ho dN hi0 (by show i≤_;omega) hn⟩,k2,k3⟩
 |@ML ah i re kid nx c st hn =>
  intro hB base S hP m g hM hg hk oY hj
  have h0:=fG.tU (n:=0) (j:=0) (m:=m) (re:=re) (kid:=kid) (p:=⟨i,some (cj c),g⟩) (.inl rfl)
  rw[if_neg (by rw[hn];exact Xe)]at h0
  exact⟨m,_,_,⟨0,h0⟩,.refl m,ca.no hM hP.empty hP.ah hP.s1⟩
 |@wM ah i re kid nx c st st' b hn eX ih =>
  intro hB base S hP m g hM hg hk oY hj
  have h0:=fG.tU (n:=0) (j:=0) (m:=m) (re:=re) (kid:=kid) (p:=⟨i,some (cj c),g⟩) (.inl rfl)
  unfold mW at h0
  rw[if_pos hn,if_pos hn]at h0
  exact⟨m,_,_,⟨0,h0⟩,.refl m,ih hB base S hP m g hM hg hk⟩
 |@GH ah i j re kid nx c st x b eX hx ih =>
  intro hB base S hP m g hM hg hk oY hj
  have aW:st.steps≤x.steps:=eX.steps
  have IM:x.steps≤100000000:=hB
  have hi0:=hP.i0
  have e7:=hP.i1
  obtain⟨m1,r,f,⟨n,fY⟩,k2,k3⟩:=dD X ih (by omega) (by omega) hP (by omega) (by omega) hM (g:=.tree kid [] (.here i (some (cj c)) g .nil)) (.tree (.here .nil)) (wm oY)
  rcases k3 with ⟨j1,_⟩|⟨j1,j2,j3,j4⟩
  ·rw[hx]at j1;cases j1
  ·cases f with
   |true =>
    refine⟨m1,_,_,⟨n+1,.nQ (p:=⟨i,some (cj c),g⟩) (Xo n) hM.aK fY⟩,k2,ca.fi (s0:=st.lJ x) (i':=i) (ca.out j2 j3 (fun hf=>?_) j1 hP.ah rfl rfl) (WW _) rfl rfl⟩
    exact rS (f:=true) X hP hg hk j4 (by cases cu:re.neg with
     |true=>rw[cu]at hf;cases hf
     |false=>rfl)
   |false =>
    refine⟨m1,_,_,⟨n+1,.ov (p:=⟨i,some (cj c),g⟩) (Xo n) (Nat.succ_pos n) hM.aK fY (.tU (n:=0) (.inr j2.aK))⟩,k2,ca.fi (s0:=st.lJ x) (i':=i) (ca.out j2 j3 (fun hf=>?_) j1 hP.ah rfl rfl) (WW _) rfl rfl⟩
    exact rS (r:=.zero) (f:=false) X hP hg hk (fun h=>by cases h) (by cases cu:re.neg with
     |true=>rfl
     |false=>rw[cu]at hf;cases hf)
 |@GB ah i e j re kid nx c d le ld st x st' b b' eX hx he hd hn pI ih fR =>
  intro hB base S hP m g hM hg hk oY hj
  have aW:st.steps≤x.steps:=eX.steps
  have Jg:x.steps≤st'.steps:=pI.steps
  have hi0:=hP.i0
  have e7:=hP.i1
  obtain⟨m1,r,f,⟨n,fY⟩,k2,k3⟩:=dD X ih (by omega) (by omega) hP (by omega) (by omega) hM (g:=.tree kid [] (.here i (some (cj c)) g .nil)) (.tree (.here .nil)) (wm oY)
  rcases k3 with ⟨j1,j2,j3,⟨rfl,e1,d1,l1,l2,rfl,l3,l4,l5,l6⟩|⟨rfl,l1,l2⟩⟩|⟨j1,_⟩
  ·rw[he]at l1;rw[hd]at l2
   cases l1;cases l2
   have wI:=fG.nQ (re:=re) (p:=⟨i,some (cj c),g⟩) (Xo n) hM.aK fY
   unfold mW at wI
   rw[if_neg (by rw[hn];exact Xe),if_neg (by rw[hn];exact Xe)]at wI
   exact⟨m1,_,_,⟨n+1,wI⟩,k2,(fR hB base S (hP.lJ hx aW j3 (WW _) hP.i1 l5 l6) m1 g j2 hg (hk.mono (WW _) aW)).fi (WW _) rfl rfl⟩
  ·rw[he]at l1;cases l1
  ·rw[hx]at j1;cases j1
 |@s7 ah i e j re kid nx c d le ld st x b eX hx he hd hn ih =>
  intro hB base S hP m g hM hg hk oY hj
  have aW:st.steps≤x.steps:=eX.steps
  have IM:x.steps≤100000000:=hB
  have hi0:=hP.i0
  have e7:=hP.i1
  obtain⟨m1,r,f,⟨n,fY⟩,k2,k3⟩:=dD X ih (by omega) (by omega) hP (by omega) (by omega) hM (g:=.tree kid [] (.here i (some (cj c)) g .nil)) (.tree (.here .nil)) (wm oY)
  rcases k3 with ⟨j1,j2,j3,⟨rfl,e1,d1,l1,l2,rfl,l3,l4,l5,l6⟩|⟨rfl,l1,l2⟩⟩|⟨j1,_⟩
  ·have wI:=fG.nQ (re:=re) (p:=⟨i,some (cj c),g⟩) (Xo n) hM.aK fY
   rw[if_pos hn]at wI
   exact⟨m1,_,_,⟨n+1,wI⟩,k2,(ca.no (st:=st.lJ x) j2 j1 hP.ah j3).fi (WW _) rfl rfl⟩
  ·rw[he]at l1;cases l1
  ·rw[hx]at j1;cases j1
 |@AG ah i j re kid nx c st x st' b b' eX hx he pI ih fR =>
  intro hB base S hP m g hM hg hk oY hj
  have aW:st.steps≤x.steps:=eX.steps
  have Jg:x.steps≤st'.steps:=pI.steps
  have hi0:=hP.i0
  have e7:=hP.i1
  obtain⟨m1,r,f,⟨n,fY⟩,k2,k3⟩:=dD X ih (by omega) (by omega) hP (by omega) (by omega) hM (g:=.tree kid [] (.here i (some (cj c)) g .nil)) (.tree (.here .nil)) (wm oY)
  rcases k3 with ⟨j1,j2,j3,⟨rfl,e,d,l1,_⟩|⟨rfl,l1,l2⟩⟩|⟨j1,_⟩
  ·rw[he]at l1;cases l1
  ·obtain⟨m2,p2,a2,⟨n2,q1⟩,q2,q3⟩:=fR hB base S (hP.lJ hx aW j3 (WW _) hP.i1 hP.ak hP.cl) m1 g j2 hg (hk.mono (WW _) aW) oY (by omega)
   exact⟨m2,p2,a2,⟨max n n2+1,.ov (p:=⟨i,some (cj c),g⟩) (by omega) (by omega) hM.aK fY q1⟩,k2.trans q2,q3.fi (WW _) rfl rfl⟩
  ·rw[hx]at j1;cases j1
end SY
end Go.Proofs.YtmihcpdhcillaaaGreat
