/- A part of the proof (S20 S21 S22 S23 S24). -/
import Derived.Test.YtpppfpaalcbggaaML42
import Derived.Test.YtpppfpaalcbggaaML43
set_option linter.unusedSimpArgs false
set_option linter.unusedVariables false
set_option maxRecDepth 100000
set_option maxHeartbeats 80000000
namespace Go.Proofs.Ytpppfpaalcbggaa
open Go.VL Go.Proofs.Try
def EvS (m:Smt) (base:Nat) (p:SPlace) (al:Bool) (m':Smt) (r:SPlace) (f:Bool):Prop:=∃n,SEv n (.inner base p al) m m' r f
def CallS (m:Smt) (p:SPlace) (m':Smt) (r:SPlace) (f:Bool):Prop:=∃n,SEv n (.call p) m m' r f
theorem evS_call {m m1 m':Smt} {base:Nat} {p p1 r:SPlace} {a1 f:Bool} (hp:p.todo≠.nil) (h1:CallS m p m1 p1 a1) (h2:EvS m1 base p1 a1 m' r f):EvS m base p true m' r f:=by
 obtain⟨k1,h1⟩:=h1
 obtain⟨k2,h2⟩:=h2
 exact⟨max k1 k2 + 1,.move (by omega) (by omega) hp h1 h2⟩
theorem evS_found {m:Smt} {base:Nat} {p:SPlace} (h:p.todo=.nil):EvS m base p true m p true:=⟨0,.done h⟩
theorem evS_none {m:Smt} {base:Nat} {p:SPlace} (h:m.top≤base∨m.spent=true):EvS m base p false m .zero false:=⟨1,.dead (Nat.lt_succ_self 0) (.stop h)⟩
def StkS (m:Smt) (S:List SPlace):Prop:=m.stk.take m.top=S∧m.top=S.length
theorem StkS.len {m:Smt} {S:List SPlace} (h:StkS m S):m.top≤m.stk.length:=by
 have:=congrArg List.length h.1
 rw[List.length_take,← h.2] at this
 omega
def Smt.pop (m:Smt):Smt:={ m with top:=m.top - 1 }
theorem StkS.last {m:Smt} {S:List SPlace} {q:SPlace} (h:StkS m (S++[q])):m.stk[m.top - 1]?=some q∧StkS m.pop S:=by
 have hl:=h.len
 have ht:m.top=S.length + 1:=by rw[h.2]; simp
 have hg:(m.stk.take m.top)[m.top - 1]?=some q:=by rw[h.1,ht]; simp
 refine⟨by rw[List.getElem?_take] at hg; rwa [if_pos (by omega)] at hg,?_,?_⟩
 ·show m.stk.take (m.top - 1)=S
  have:m.stk.take (m.top - 1)=(m.stk.take m.top).take (m.top - 1):=by rw[List.take_take]; congr 1; omega
  rw[this,h.1,ht]; simp
 ·show m.top - 1=S.length; omega
theorem StkS.push {m:Smt} {S:List SPlace} (h:StkS m S) (q:SPlace):StkS (m.push q) (S++[q]):=by
 refine⟨?_,?_⟩
 ·show (m.stk.take m.top++[q]).take (m.top + 1)=_
  rw[h.1,List.take_of_length_le (by rw[List.length_append,h.2]; simp)]
 ·show m.top + 1=_; rw[h.2]; simp
theorem StkS.cut {m:Smt} {S S':List SPlace} (h:StkS m (S++S')):StkS { m with top:=S.length } S:=by
 have hl:=h.len
 have ht:=h.2
 rw[List.length_append] at ht
 refine⟨?_,rfl⟩
 show m.stk.take S.length=S
 have:m.stk.take S.length=(m.stk.take m.top).take S.length:=by rw[List.take_take]; congr 1; omega
 rw[this,h.1]; simp
theorem evS_pop {m m':Smt} {base:Nat} {p q r:SPlace} {S:List SPlace} {f:Bool} (hS:StkS m (S++[q])) (hb:base≤S.length) (hm:m.top≤1000000000000) (hs:m.spent=false) (he:EvS m.pop base q true m' r f):EvS m base p false m' r f:=by
 obtain⟨k,hk⟩:=he
 have ht:m.top=S.length + 1:=by rw[hS.2]; simp
 exact⟨k + 2,.dead (Nat.lt_succ_self _) (.pop (Nat.lt_succ_self _) (by omega) hS.len hm hs hS.last.1 hk)⟩
structure FrS (m m':Smt):Prop where
 p:m'.p=m.p
 t:m'.t=m.t
 start:m'.start=m.start
 fuel:m'.fuel=m.fuel
theorem FrS.refl (m:Smt):FrS m m:=⟨rfl,rfl,rfl,rfl⟩
theorem FrS.trans {m m1 m2:Smt} (h:FrS m m1) (k:FrS m1 m2):FrS m m2:=⟨k.p.trans h.p,k.t.trans h.t,k.start.trans h.start,k.fuel.trans h.fuel⟩
theorem frS_step (m:Smt):FrS m m.step:=by unfold Smt.step; split <;> exact⟨rfl,rfl,rfl,rfl⟩
theorem frS_push (m:Smt) (p:SPlace):FrS m (m.push p):=⟨rfl,rfl,rfl,rfl⟩
theorem frS_pop (m:Smt):FrS m m.pop:=⟨rfl,rfl,rfl,rfl⟩
theorem frS_alt:∀(l:List Re) (p:SPlace) (m:Smt),FrS m (altP l p m)
 | [],_,m=>.refl m
 | k::l,p,m=>(frS_alt l p m).trans (frS_push (altP l p m) { p with todo:=.tree k [] p.todo })
inductive RunsS (base:Nat):Smt→SPlace→Bool→List (Int × Option CapsL)→Smt→SPlace→Bool→Prop where
 | refl (m:Smt) (p:SPlace) (al:Bool):RunsS base m p al [] m p al
 | call {m m1 m':Smt} {p p1 p':SPlace} {al1 al':Bool} {R:List (Int × Option CapsL)} (hp:p.todo≠.nil) (ha:CallS m p m1 p1 al1) (h:RunsS base m1 p1 al1 R m' p' al'):RunsS base m p true R m' p' al'
 | pop {m m':Smt} {p q p':SPlace} {S:List SPlace} {R:List (Int × Option CapsL)} {al':Bool} (hS:StkS m (S++[q])) (hb:base≤S.length) (hm:m.top≤1000000000000) (hs:m.spent=false) (h:RunsS base m.pop q true R m' p' al'):RunsS base m p false R m' p' al'
 | emit {m m':Smt} {i:Int} {c:Option CapsL} {p':SPlace} {R:List (Int × Option CapsL)} {al':Bool} (h:RunsS base m .zero false R m' p' al'):RunsS base m ⟨i,c,.nil⟩ true ((i,c)::R) m' p' al'
theorem RunsS.trans {base:Nat} {m m1 m2:Smt} {p p1 p2:SPlace} {a a1 a2:Bool} {R R':List (Int × Option CapsL)} (h:RunsS base m p a R m1 p1 a1) (k:RunsS base m1 p1 a1 R' m2 p2 a2):RunsS base m p a (R++R') m2 p2 a2:=by
 induction h with
 | refl=>exact k
 | call hg ha _ ih=>exact .call hg ha (ih k)
 | pop hS hb hm hs _ ih=>exact .pop hS hb hm hs (ih k)
 | emit _ ih=>exact .emit (ih k)
theorem runsS_ev {base:Nat} {m m' m2:Smt} {p p' r:SPlace} {a a' f:Bool} {R:List (Int × Option CapsL)} (h:RunsS base m p a R m' p' a') (hR:R=[]) (he:EvS m' base p' a' m2 r f):EvS m base p a m2 r f:=by
 induction h with
 | refl=>exact he
 | call hg ha _ ih=>exact evS_call hg ha (ih hR he)
 | pop hS hb hm hs _ ih=>exact evS_pop hS hb hm hs (ih hR he)
 | emit=>cases hR
def padC (c:CapsL):CapsL:=c++List.replicate (9 - c.length) (-1,-1)
theorem padC_len {c:CapsL} (h:c.length≤9):(padC c).length=9:=by unfold padC; rw[List.length_append,List.length_replicate]; omega
theorem padC_set {c:CapsL} {k:Nat} (h:k < c.length) (x:Int × Int):(padC c).set k x=padC (c.set k x):=by
 unfold padC
 rw[List.set_append_left _ _ h,List.length_set]
theorem padC_get {c:CapsL} {k:Nat} (h:k < c.length):(padC c)[k]?=c[k]?:=by
 unfold padC
 rw[List.getElem?_append_left h]
def RTS (re re':Re):Prop:=(re'=re∧re.mode≠2)∨(re.mode=2∧re'=re.setMode 0)
inductive GRS:SGoal→Goal→Prop where
 | nil:GRS .nil .nil
 | tree {re:Re} {ext:List D} {k f:Int} {g:SGoal} {h:Goal} (hg:GRS g h):GRS (.tree re ext g) (.mk 0 re k f h)
 | round {re re':Re} {ext:List D} {n f:Int} {g:SGoal} {h:Goal} (ht:RTS re re') (hg:GRS g h):GRS (.round re ext n g) (.mk 1 re' n f h)
 | more {re re':Re} {ext:List D} {n f:Int} {g:SGoal} {h:Goal} (ht:RTS re re') (hn:n < re'.mn) (hg:GRS g h):GRS (.round re ext (n + 1) g) (.mk 2 re' n f h)
 | moved {re re':Re} {ext:List D} {n a:Int} {g:SGoal} {h:Goal} (ht:RTS re re') (hn:re'.mn≤n) (hg:GRS g h):GRS (.moved a re ext (n + 1) g) (.mk 2 re' n a h)
 | fin {re:Re} {ext:List D} {a k:Int} {g:SGoal} {h:Goal} (hg:GRS g h):GRS (.fin a re ext g) (.mk 3 re k a h)
 | here {re:Re} {a k:Int} {c:Option CapsL} {u:SGoal} {g:SGoal} {h:Goal} (hg:GRS g h):GRS (.here a c u g) (.mk 4 re k a h)
def vS (nc:Int) (re:Re):Bool:=decide ((re.op=3∨re.op=4∨re.op=5∨re.op=7∨re.op=8∨re.op=9→re.kids≠[])∧(re.op=10→2≤re.kids.length)∧re.set.length≤1000000000∧re.kids.length≤1000 ∧
 (re.op=5∨re.op=6∨re.op=10→1≤re.n∧re.n≤nc)∧(re.op=11→0≤re.n∧re.n≤5)∧(re.op=4→-1≤re.mx)∧0≤re.op∧re.op≤11)
theorem vS_iff {nc:Int} {re:Re} (h:re.every (vS nc)=true):((re.op=3∨re.op=4∨re.op=5∨re.op=7∨re.op=8∨re.op=9→re.kids≠[])∧(re.op=10→2≤re.kids.length)∧re.set.length≤1000000000∧re.kids.length≤1000 ∧
  (re.op=5∨re.op=6∨re.op=10→1≤re.n∧re.n≤nc)∧(re.op=11→0≤re.n∧re.n≤5)∧(re.op=4→-1≤re.mx)∧0≤re.op∧re.op≤11)∧∀k∈re.kids,k.every (vS nc)=true:=by
 obtain⟨h1,h2⟩:=(Re.every_iff re).1 h
 exact⟨of_decide_eq_true h1,h2⟩
def GKS (nc i s:Int):Goal→Prop
 | .nil=>True
 | .mk kind re k frm next=>(kind≠4→re.every (vS nc)=true)∧(kind=1∨kind=2→re.op=4∧re.mode≠2∧0≤k)∧(kind=1→k≤s)∧(kind=2→k < s)∧(kind=3→re.op=5∧0≤frm∧frm≤i)∧GKS nc i s next
theorem GKS.mono {nc i i' s s':Int} (hi:i≤i') (hs:s≤s'):∀{g:Goal},GKS nc i s g→GKS nc i' s' g
 | .nil,_=>trivial
 | .mk _ _ _ _ _,h=>by
  obtain⟨h1,h2,h3,h4,h5,h6⟩:=h
  exact⟨h1,h2,fun k=>by have:=h3 k; omega,fun k=>by have:=h4 k; omega,fun k=>by have:=h5 k; exact⟨this.1,by omega⟩,h6.mono hi hs⟩
structure MSS (t:List Int) (F:Int) (m:Smt) (S:List SPlace) (s:Int):Prop where
 t:m.t=t
 fuel:m.fuel=F
 stk:StkS m S
 steps:m.steps=s
 spent:m.spent=false
 room:(S.length:Int)≤1000 * s
structure SSpent (t:List Int) (F:Int) (m:Smt):Prop where
 t:m.t=t
 fuel:m.fuel=F
 spent:m.spent=true
 steps:F≤m.steps
 s0:0≤m.steps
 s1:m.steps≤100000000
 top:m.top≤m.stk.length
 tmax:m.top≤1000000000000
def SK:SGoal→Prop
 | .nil=>True
 | .tree _ _ nx=>SK nx
 | .round _ _ _ nx=>SK nx
 | .moved _ _ _ _ nx=>SK nx
 | .fin _ re _ nx=>(1≤re.n∧re.n≤9)∧SK nx
 | .here _ _ _ nx=>SK nx
structure SLegal (t:List Int) (p:SPlace):Prop where
 a0:0≤p.at_
 a1:p.at_≤t.length
 caps:∃c,p.caps=some c∧c.length=9
 todo:SK p.todo
theorem SSpent.good {t:List Int} {F:Int} {m:Smt} {p:SPlace} (h:SSpent t F m) (hp:SLegal t p) (ht:t.length≤1000000):SGood m p :=
 ⟨h.s0,by have:=h.s1; omega,h.top,h.tmax,hp.a0,by rw[h.t]; exact hp.a1,by rw[h.t]; exact ht⟩
theorem SSpent.step {t:List Int} {F:Int} {m:Smt} (h:SSpent t F m):m.step=m:=by
 rw[step_out_of (by rw[h.fuel]; exact h.steps)]
 have:=h.spent
 cases m
 simp only at this
 subst this
 rfl
theorem drainS {t:List Int} {F:Int} (ht:t.length≤1000000) {base:Nat}:∀(g:SGoal) (m:Smt) (x:Int) (c:Option CapsL),SSpent t F m→SLegal t ⟨x,c,g⟩ →
  ∃m' r f,EvS m base ⟨x,c,g⟩ true m' r f∧SSpent t F m'∧FrS m m'∧(∀S,StkS m S→StkS m' S)∧(f=true→SLegal t r)
 | .nil,m,x,c,hm,hp=>⟨m,_,true,evS_found rfl,hm,.refl m,fun _ h=>h,fun _=>hp⟩
 | .tree re ext nx,m,x,c,hm,hp=>by
  have dead:∀{m1:Smt} {p1:SPlace},SSpent t F m1→FrS m m1→(∀S,StkS m S→StkS m1 S)→CallS m ⟨x,c,.tree re ext nx⟩ m1 p1 false→∃m' r f,EvS m base ⟨x,c,.tree re ext nx⟩ true m' r f∧SSpent t F m'∧FrS m m'∧(∀S,StkS m S→StkS m' S)∧(f=true→SLegal t r) :=
   fun h1 h2 h3 h4=>⟨_,.zero,false,evS_call (by simp) h4 (evS_none (.inr h1.spent)),h1,h2,h3,fun h=>by cases h⟩
  by_cases o4:re.op=4
  ·by_cases hmo:re.mode=2
   ·have hs:SEv 0 (.search m.top) (m.push ⟨x,c,.round re ext 0 .nil⟩) (m.push ⟨x,c,.round re ext 0 .nil⟩) .zero false:=.stop (.inr hm.spent)
    have hlen:(m.push ⟨x,c,.round re ext 0 .nil⟩).top≤(m.push ⟨x,c,.round re ext 0 .nil⟩).stk.length:=by
     show m.top + 1≤(m.stk.take m.top++[_]).length
     rw[List.length_append,List.length_take]
     have:=hm.top
     simp; omega
    have hf:SEv 1 (.first ⟨x,c,.round re ext 0 .nil⟩) m { (m.push ⟨x,c,.round re ext 0 .nil⟩) with top:=m.top } .zero false:=.first (Nat.lt_succ_self 0) hm.top hm.tmax hs (Nat.le_succ _) hlen
    refine dead (m1:={ (m.push ⟨x,c,.round re ext 0 .nil⟩) with top:=m.top }) ⟨hm.t,hm.fuel,hm.spent,hm.steps,hm.s0,hm.s1,?_,hm.tmax⟩ ⟨rfl,rfl,rfl,rfl⟩ (fun S hS=>?_) ⟨3,.rep (Nat.lt_succ_self 2) o4 (.repP (p:=⟨x,c,nx⟩) (Nat.lt_succ_self 1) o4 hmo hf)⟩
    ·exact Nat.le_of_succ_le (show m.top + 1≤(m.push ⟨x,c,.round re ext 0 .nil⟩).stk.length from hlen)
    ·refine⟨?_,hS.2⟩
     show (m.stk.take m.top++[_]).take m.top=S
     have:=hm.top
     rw[List.take_append_of_le_length (by rw[List.length_take]; omega),List.take_take,Nat.min_self]
     exact hS.1
   ·
    have hg:SGood m ⟨x,c,.round re ext 0 nx⟩:=hm.good ⟨hp.a0,hp.a1,hp.caps,hp.todo⟩ ht
    have h1:CallS m ⟨x,c,.tree re ext nx⟩ m ⟨x,c,.round re ext 0 nx⟩ true:=⟨1,.rep (Nat.lt_succ_self 0) o4 (.repN (p:=⟨x,c,nx⟩) o4 hmo)⟩
    have h2:CallS m ⟨x,c,.round re ext 0 nx⟩ m.step .zero false:=⟨0,.roundOut hg (by rw[hm.fuel]; exact hm.steps)⟩
    rw[hm.step] at h2
    exact⟨m,.zero,false,evS_call (by simp) h1 (evS_call (by simp) h2 (evS_none (.inr hm.spent))),hm,.refl m,fun _ h=>h,fun h=>by cases h⟩
  ·have h1:CallS m ⟨x,c,.tree re ext nx⟩ m.step .zero false:=⟨0,.treeOut (hm.good hp ht) o4 (by rw[hm.fuel]; exact hm.steps)⟩
   rw[hm.step] at h1
   exact dead hm (.refl m) (fun _ h=>h) h1
 | .round re ext k nx,m,x,c,hm,hp=>by
  have h2:CallS m ⟨x,c,.round re ext k nx⟩ m.step .zero false:=⟨0,.roundOut (hm.good hp ht) (by rw[hm.fuel]; exact hm.steps)⟩
  rw[hm.step] at h2
  exact⟨m,.zero,false,evS_call (by simp) h2 (evS_none (.inr hm.spent)),hm,.refl m,fun _ h=>h,fun h=>by cases h⟩
 | .moved y re ext k nx,m,x,c,hm,hp=>by
  by_cases hxy:x=y
  ·subst hxy
   exact⟨m,.zero,false,evS_call (by simp) ⟨0,.stay⟩ (evS_none (.inr hm.spent)),hm,.refl m,fun _ h=>h,fun h=>by cases h⟩
  ·have h2:SEv 0 (.call ⟨x,c,.round re ext k nx⟩) m m.step .zero false:=.roundOut (hm.good ⟨hp.a0,hp.a1,hp.caps,hp.todo⟩ ht) (by rw[hm.fuel]; exact hm.steps)
   rw[hm.step] at h2
   exact⟨m,.zero,false,evS_call (by simp) ⟨1,.moved (Nat.lt_succ_self 0) hxy h2⟩ (evS_none (.inr hm.spent)),hm,.refl m,fun _ h=>h,fun h=>by cases h⟩
 | .fin y re ext nx,m,x,c,hm,hp=>by
  obtain⟨c',rfl,hl⟩:=(hp.caps:∃c',c=some c'∧c'.length=9)
  have hn:(1≤re.n∧re.n≤9)∧SK nx:=hp.todo
  obtain⟨m',r,f,k1,k2,k3,k4,k5⟩:=drainS ht (base:=base) nx m x (some (c'.set (re.n - 1).toNat (y,x))) hm ⟨hp.a0,hp.a1,⟨_,rfl,by rw[List.length_set]; exact hl⟩,hn.2⟩
  exact⟨m',r,f,evS_call (by simp) ⟨0,.fin hl hn.1.1 hn.1.2⟩ k1,k2,k3,k4,k5⟩
 | .here y c' t' nx,m,x,c,hm,hp=>by
  by_cases hxy:x=y
  ·obtain⟨m',r,f,k1,k2,k3,k4,k5⟩:=drainS ht (base:=base) nx m x c hm ⟨hp.a0,hp.a1,hp.caps,hp.todo⟩
   have hc:CallS m ⟨x,c,.here y c' t' nx⟩ m ⟨x,c,nx⟩ (decide (x=y)):=⟨0,.here⟩
   rw[decide_eq_true hxy] at hc
   exact⟨m',r,f,evS_call (by simp) hc k1,k2,k3,k4,k5⟩
  ·have hc:CallS m ⟨x,c,.here y c' t' nx⟩ m ⟨x,c,nx⟩ (decide (x=y)):=⟨0,.here⟩
   rw[decide_eq_false hxy] at hc
   exact⟨m,.zero,false,evS_call (by simp) hc (evS_none (.inr hm.spent)),hm,.refl m,fun _ h=>h,fun h=>by cases h⟩
def pR (r:Int × CapsL):Int × Option CapsL:=(r.1,some (padC r.2))
def ConS (t:List Int) (F:Int) (nc:Nat) (base:Nat) (S:List SPlace) (most i:Int) (m:Smt) (p:SPlace) (al:Bool) (st:Sst) (b:Bool) (st':Sst):Prop :=
 ∃(R:List (Int × CapsL)) (m':Smt),st'.ends=st.ends++R.map Prod.fst∧st'.caps=st.caps++R.map Prod.snd∧(∀r∈R,i≤r.1∧r.1≤t.length∧CapsOk t r.2∧r.2.length=nc)∧FrS m m' ∧
  ((b=false∧st'.empty=false∧(0≤most→(st'.ends.length:Int) < most)∧MSS t F m' S st'.steps∧st'.steps≤F∧∃p',RunsS base m p al (R.map pR) m' p' false) ∨
   (b=true∧st'.empty=false∧0≤most∧(st'.ends.length:Int)=most∧st'.steps≤F∧∃(S':List SPlace) (R0:List (Int × CapsL)) (e:Int) (d:CapsL),MSS t F m' (S++S') st'.steps∧R=R0++[(e,d)]∧RunsS base m p al (R0.map pR) m' ⟨e,some (padC d),.nil⟩ true) ∨
   (b=true∧st'.empty=true∧(0≤most→(st'.ends.length:Int) < most)∧SSpent t F m'∧∃(p':SPlace) (al':Bool) (S':List SPlace),StkS m' (S++S')∧(al'=true→SLegal t p')∧RunsS base m p al (R.map pR) m' p' al'))
section con
variable {t:List Int} {F:Int} {nc base:Nat} {S:List SPlace} {most i:Int} {m:Smt} {p:SPlace} {st st':Sst} {b:Bool}
theorem ConS.call {m1:Smt} {p1:SPlace} {al1:Bool} (hg:p.todo≠.nil) (ha:CallS m p m1 p1 al1) (hp:FrS m m1) (h:ConS t F nc base S most i m1 p1 al1 st b st'):ConS t F nc base S most i m p true st b st':=by
 obtain⟨R,m',h1,h2,h3,h4,h6⟩:=h
 refine⟨R,m',h1,h2,h3,hp.trans h4,?_⟩
 rcases h6 with ⟨k1,k2,k3,k4,kF,p',k5⟩ | ⟨k1,k2,k3,k4,kF,S',R0,e,d,k5,k6,k7⟩ | ⟨k1,k2,k3,k4,p',al',S',k5,k6,k7⟩
 ·exact .inl ⟨k1,k2,k3,k4,kF,p',.call hg ha k5⟩
 ·exact .inr (.inl ⟨k1,k2,k3,k4,kF,S',R0,e,d,k5,k6,.call hg ha k7⟩)
 ·exact .inr (.inr ⟨k1,k2,k3,k4,p',al',S',k5,k6,.call hg ha k7⟩)
theorem ConS.weak {al:Bool} {i':Int} {s0:Sst} (h:ConS t F nc base S most i' m p al s0 b st') (hi:i≤i') (h1:s0.ends=st.ends) (h2:s0.caps=st.caps):ConS t F nc base S most i m p al st b st':=by
 obtain⟨R,m',k1,k2,k3,k4,k6⟩:=h
 exact⟨R,m',by rw[k1,h1],by rw[k2,h2],fun r hr=>by have:=k3 r hr; exact⟨by omega,this.2⟩,k4,k6⟩
theorem ConS.no (hM:MSS t F m S st.steps) (he:st.empty=false) (hm:0≤most→(st.ends.length:Int) < most) (hF:st.steps≤F):ConS t F nc base S most i m p false st false st :=
 ⟨[],m,by simp,by simp,by simp,.refl m,.inl ⟨rfl,he,hm,hM,hF,p,.refl m p false⟩⟩
theorem ConS.out {al:Bool} {s1:Sst} (hs:SSpent t F m) (hS:StkS m S) (hl:al=true→SLegal t p) (he:s1.empty=true) (hm:0≤most→(st.ends.length:Int) < most) (h1:s1.ends=st.ends) (h2:s1.caps=st.caps):ConS t F nc base S most i m p al st true s1 :=
 ⟨[],m,by simp [h1],by simp [h2],by simp,.refl m,.inr (.inr ⟨rfl,he,by rw[h1]; exact hm,hs,p,al,[],by simpa using hS,hl,.refl m p al⟩)⟩
theorem ConS.then {S1:List SPlace} {al:Bool} {s2:Sst} (h:ConS t F nc base S1 most i m p al st false s2)
  (hf:∀m2 p2,FrS m m2→MSS t F m2 S1 s2.steps→s2.empty=false→s2.steps≤F→(0≤most→(s2.ends.length:Int) < most)→ConS t F nc base S most i m2 p2 false s2 b st'):ConS t F nc base S most i m p al st b st':=by
 obtain⟨R,m',h1,h2,h3,h4,h6⟩:=h
 rcases h6 with ⟨_,k2,k3,k4,kF,p',k5⟩ | ⟨k1,_⟩ | ⟨k1,_⟩
 ·obtain⟨R',m2,j1,j2,j3,j4,j6⟩:=hf m' p' h4 k4 k2 kF k3
  refine⟨R++R',m2,by rw[j1,h1]; simp,by rw[j2,h2]; simp,fun r hr=>?_,h4.trans j4,?_⟩
  ·rcases List.mem_append.1 hr with hr | hr
   ·exact h3 r hr
   ·exact j3 r hr
  ·rw[List.map_append]
   rcases j6 with ⟨l1,l2,l3,l4,lF,p'',l5⟩ | ⟨l1,l2,l3,l4,lF,S',R0,e,d,l5,l6,l7⟩ | ⟨l1,l2,l3,l4,p'',al',S',l5,l6,l7⟩
   ·exact .inl ⟨l1,l2,l3,l4,lF,p'',k5.trans l5⟩
   ·exact .inr (.inl ⟨l1,l2,l3,l4,lF,S',R++R0,e,d,l5,by rw[l6,List.append_assoc],by rw[List.map_append]; exact k5.trans l7⟩)
   ·exact .inr (.inr ⟨l1,l2,l3,l4,p'',al',S',l5,l6,k5.trans l7⟩)
 ·cases k1
 ·cases k1
theorem ConS.pop {q:SPlace} {S1:List SPlace} {s:Int} (hM:MSS t F m (S1++[q]) s) (hb:base≤S1.length) (ht:m.top≤1000000000000) (h:ConS t F nc base S most i m.pop q true st b st'):ConS t F nc base S most i m p false st b st':=by
 obtain⟨R,m',h1,h2,h3,h4,h6⟩:=h
 refine⟨R,m',h1,h2,h3,(frS_pop m).trans h4,?_⟩
 rcases h6 with ⟨k1,k2,k3,k4,kF,p',k5⟩ | ⟨k1,k2,k3,k4,kF,S',R0,e,d,k5,k6,k7⟩ | ⟨k1,k2,k3,k4,p',al',S',k5,k6,k7⟩
 ·exact .inl ⟨k1,k2,k3,k4,kF,p',.pop hM.stk hb ht hM.spent k5⟩
 ·exact .inr (.inl ⟨k1,k2,k3,k4,kF,S',R0,e,d,k5,k6,.pop hM.stk hb ht hM.spent k7⟩)
 ·exact .inr (.inr ⟨k1,k2,k3,k4,p',al',S',k5,k6,.pop hM.stk hb ht hM.spent k7⟩)
theorem ConS.grow {S2:List SPlace} {al:Bool} (h:ConS t F nc base (S++S2) most i m p al st true st'):ConS t F nc base S most i m p al st true st':=by
 obtain⟨R,m',h1,h2,h3,h4,h6⟩:=h
 refine⟨R,m',h1,h2,h3,h4,?_⟩
 rcases h6 with ⟨k1,_⟩ | ⟨k1,k2,k3,k4,kF,S',R0,e,d,k5,k6,k7⟩ | ⟨k1,k2,k3,k4,p',al',S',k5,k6,k7⟩
 ·cases k1
 ·exact .inr (.inl ⟨k1,k2,k3,k4,kF,S2++S',R0,e,d,by rw[← List.append_assoc]; exact k5,k6,k7⟩)
 ·exact .inr (.inr ⟨k1,k2,k3,k4,p',al',S2++S',by rw[← List.append_assoc]; exact k5,k6,k7⟩)
theorem ConS.same {p2:SPlace} (hn:p.todo≠.nil) (hn2:p2.todo≠.nil) (hs:m.spent=false) (hc:∀m1 p1 a1,CallS m p m1 p1 a1→CallS m p2 m1 p1 a1) (h:ConS t F nc base S most i m p true st b st'):ConS t F nc base S most i m p2 true st b st':=by
 have key:∀{R:List (Int × Option CapsL)} {m':Smt} {p':SPlace} {al':Bool},RunsS base m p true R m' p' al'→(m'=m∧p'=p∧al'=true)∨RunsS base m p2 true R m' p' al':=by
  intro R m' p' al' hr
  cases hr with
  | refl=>exact .inl ⟨rfl,rfl,rfl⟩
  | call hp ha h=>exact .inr (.call hn2 (hc _ _ _ ha) h)
  | emit h=>exact absurd rfl hn
 obtain⟨R,m',h1,h2,h3,h4,h6⟩:=h
 refine⟨R,m',h1,h2,h3,h4,?_⟩
 rcases h6 with ⟨k1,k2,k3,k4,kF,p',k5⟩ | ⟨k1,k2,k3,k4,kF,S',R0,e,d,k5,k6,k7⟩ | ⟨k1,k2,k3,k4,p',al',S',k5,k6,k7⟩
 ·rcases key k5 with ⟨_,_,h⟩ | h
  ·cases h
  ·exact .inl ⟨k1,k2,k3,k4,kF,p',h⟩
 ·rcases key k7 with ⟨_,h,_⟩ | h
  ·exact absurd (by rw[← h]) hn
  ·exact .inr (.inl ⟨k1,k2,k3,k4,kF,S',R0,e,d,k5,k6,h⟩)
 ·rcases key k7 with ⟨h,_,_⟩ | h
  ·rw[h] at k4; rw[k4.spent] at hs; cases hs
  ·exact .inr (.inr ⟨k1,k2,k3,k4,p',al',S',k5,k6,h⟩)
end con
def FirstPost (t:List Int) (F:Int) (nc:Nat) (S:List SPlace) (i:Int) (m:Smt) (q:SPlace) (x:Sst):Prop :=
 ∃m1 r f,(∃k,SEv k (.first q) m m1 r f)∧FrS m m1 ∧
  ((x.empty=false∧MSS t F m1 S x.steps∧x.steps≤F∧((f=true∧∃e d,x.ends=[e]∧x.caps=[d]∧r=⟨e,some (padC d),.nil⟩∧i≤e∧e≤t.length∧CapsOk t d∧d.length=nc)∨(f=false∧x.ends=[]∧x.caps=[]))) ∨
   (x.empty=true∧SSpent t F m1∧StkS m1 S∧(f=true→SLegal t r)))
theorem first_simS {t:List Int} {F:Int} {nc:Nat} {S:List SPlace} {i:Int} {m:Smt} {q:SPlace} {st:Sst} {b:Bool} {x:Sst} (ht:t.length≤1000000) (hM:MSS t F m S st.steps) (hB:st.steps≤100000000)
  (h:∀m0,FrS m m0→MSS t F m0 S st.steps→ConS t F nc S.length S 1 i m0 q true st.sub b x):FirstPost t F nc S i m q x:=by
 have htop:m.top=S.length:=hM.stk.2
 have hroom:=hM.room
 have hlen:=hM.stk.len
 have hpush:=hM.stk.push q
 have hpt:(m.push q).top=S.length + 1:=by show m.top + 1=_; omega
 have hM0:MSS t F (m.push q).pop S st.steps:=⟨hM.t,hM.fuel,hpush.last.2,hM.steps,hM.spent,hroom⟩
 obtain⟨R,m',h1,h2,h3,h4,h6⟩:=h (m.push q).pop ((frS_push m q).trans (frS_pop _)) hM0
 simp only[Sst.sub,List.nil_append] at h1 h2
 have fin:∀{m2:Smt} {r:SPlace} {f:Bool} {S':List SPlace},EvS (m.push q).pop S.length q true m2 r f→StkS m2 (S++S')→∃k,SEv k (.first q) m { m2 with top:=m.top } r f:=by
  intro m2 r f S' he hS'
  obtain⟨k,hk⟩:=he
  have hl':=hS'.len
  have ht':=hS'.2
  rw[List.length_append] at ht'
  refine⟨k + 2,.first (Nat.lt_succ_self _) hlen (by omega) (.pop (Nat.lt_succ_self _) (by rw[hpt,htop]; exact Nat.lt_succ_self _) hpush.len (by rw[hpt]; omega) hM.spent hpush.last.1 ?_) (by omega) hl'⟩
  rw[htop]
  exact hk
 have cut:∀{m2:Smt} {S':List SPlace},StkS m2 (S++S')→StkS { m2 with top:=m.top } S:=by
  intro m2 S' hS'
  rw[htop]
  exact hS'.cut
 have fr:∀{m2:Smt},FrS (m.push q).pop m2→FrS m { m2 with top:=m.top }:=fun hf=>⟨hf.p,hf.t,hf.start,hf.fuel⟩
 rcases h6 with ⟨k1,k2,k3,k4,kF,p',k5⟩ | ⟨k1,k2,k3,k4,kF,S',R0,e,d,k5,k6,k7⟩ | ⟨k1,k2,k3,k4,p',al',S',k5,k6,k7⟩
 ·
  have hx:x.ends=[]:=List.eq_nil_of_length_eq_zero (by have:=k3 (by omega); omega)
  have hR:R=[]:=by rw[h1] at hx; exact List.map_eq_nil_iff.1 hx
  subst hR
  have he:EvS (m.push q).pop S.length q true m' .zero false:=runsS_ev k5 rfl (evS_none (.inl (by rw[k4.stk.2]; exact Nat.le_refl _)))
  have hS0:StkS m' (S++[]):=by simpa using k4.stk
  exact⟨_,_,_,fin he hS0,fr h4,.inl ⟨k2,⟨k4.t,k4.fuel,cut hS0,k4.steps,k4.spent,k4.room⟩,kF,.inr ⟨rfl,by simpa using h1,by simpa using h2⟩⟩⟩
 ·have hR0:R0=[]:=by
   have:=congrArg List.length h1
   rw[k6] at this
   simp at this
   exact List.eq_nil_of_length_eq_zero (by omega)
  subst hR0
  simp only[List.nil_append] at k6
  subst k6
  have he:EvS (m.push q).pop S.length q true m' ⟨e,some (padC d),.nil⟩ true:=runsS_ev k7 rfl (evS_found rfl)
  have hr:=h3 (e,d) (by simp)
  have hrm:=k5.room
  rw[List.length_append] at hrm
  exact⟨_,_,_,fin he k5.stk,fr h4,.inl ⟨k2,⟨k5.t,k5.fuel,cut k5.stk,k5.steps,k5.spent,by omega⟩,kF,.inl ⟨rfl,e,d,by simpa using h1,by simpa using h2,rfl,hr.1,hr.2.1,hr.2.2.1,hr.2.2.2⟩⟩⟩
 ·have hx:x.ends=[]:=List.eq_nil_of_length_eq_zero (by have:=k3 (by omega); omega)
  have hR:R=[]:=by rw[h1] at hx; exact List.map_eq_nil_iff.1 hx
  subst hR
  have htp:∀{m2:Smt},SSpent t F m2→(∃S2,StkS m2 (S++S2))→SSpent t F { m2 with top:=m.top }:=by
   intro m2 hs hS
   obtain⟨S2,hS⟩:=hS
   have h1:=hS.len
   have h2:=hS.2
   rw[List.length_append] at h2
   exact⟨hs.t,hs.fuel,hs.spent,hs.steps,hs.s0,hs.s1,(Nat.le_trans (by omega) h1:m.top≤m2.stk.length),(by show m.top≤1000000000000; omega)⟩
  cases al' with
  | false =>
   have he:EvS (m.push q).pop S.length q true m' .zero false:=runsS_ev k7 rfl (evS_none (.inr k4.spent))
   exact⟨_,_,_,fin he k5,fr h4,.inr ⟨k2,htp k4 ⟨S',k5⟩,cut k5,fun h=>by cases h⟩⟩
  | true =>
   obtain⟨m2,r,f,j1,j2,j3,j4,j5⟩:=drainS ht (base:=S.length) p'.todo m' p'.at_ p'.caps k4 (k6 rfl)
   have he:EvS (m.push q).pop S.length q true m2 r f:=runsS_ev k7 rfl j1
   exact⟨_,_,_,fin he (j4 _ k5),fr (h4.trans j3),.inr ⟨k2,htp j2 ⟨S',j4 _ k5⟩,cut (j4 _ k5),j5⟩⟩
theorem gk_sk {nc i s:Int} (hnc:nc≤9):∀{h:Goal} {g:SGoal},GRS g h→GKS nc i s h→SK g:=by
 intro h g hg
 induction hg with
 | nil=>intro _; exact trivial
 | tree _ ih=>intro hk; exact ih hk.2.2.2.2.2
 | round _ _ ih=>intro hk; exact ih hk.2.2.2.2.2
 | more _ _ _ ih=>intro hk; exact ih hk.2.2.2.2.2
 | moved _ _ _ ih=>intro hk; exact ih hk.2.2.2.2.2
 | fin _ ih =>
  intro hk
  have h5:=hk.2.2.2.2.1 rfl
  have hv:=(vS_iff (hk.1 (by decide))).1.2.2.2.2.1 (.inl h5.1)
  exact⟨⟨hv.1,by omega⟩,ih hk.2.2.2.2.2⟩
 | here _ ih=>intro hk; exact ih hk.2.2.2.2.2
theorem push_grS {g:SGoal} {h:Goal} (hg:GRS g h):∀l:List Re,GRS (pushS l g) (pushAll l h)
 | []=>hg
 | k::l=>.tree (push_grS hg l)
theorem push_gkS {nc i s:Int} {h:Goal} (hk:GKS nc i s h):∀l:List Re,(∀k∈l,k.every (vS nc)=true)→GKS nc i s (pushAll l h)
 | [],_=>hk
 | k::l,hv=>⟨fun _=>hv k (by simp),fun h=>by omega,fun h=>by omega,fun h=>by omega,fun h=>by omega,push_gkS hk l (fun x hx=>hv x (by simp [hx]))⟩
def altQ (p:SPlace) (l:List Re):List SPlace:=(l.map fun k=>({ p with todo:=.tree k [] p.todo }:SPlace)).reverse
theorem altQ_cons (p:SPlace) (k:Re) (l:List Re):altQ p (k::l)=altQ p l++[{ p with todo:=.tree k [] p.todo }]:=by
 unfold altQ; rw[List.map_cons,List.reverse_cons]
theorem altP_stk {p:SPlace}:∀(l:List Re) (m:Smt) (S:List SPlace),StkS m S→StkS (altP l p m) (S++altQ p l)
 | [],m,S,h=>by
  show StkS m (S++[])
  rw[List.append_nil]; exact h
 | k::l,m,S,h=>by
  rw[altQ_cons,← List.append_assoc]
  exact(altP_stk l m S h).push { p with todo:=.tree k [] p.todo }
theorem altQ_len (p:SPlace) (l:List Re):(altQ p l).length=l.length:=by unfold altQ; simp
theorem altP_same {p:SPlace}:∀(l:List Re) (m:Smt),(altP l p m).steps=m.steps∧(altP l p m).spent=m.spent
 | [],m=>⟨rfl,rfl⟩
 | k::l,m=>altP_same l m
structure FxS (t:List Int) (nc:Nat):Prop where
 ht:t.length≤1000000
 nc:nc≤9
structure PreS (t:List Int) (F:Int) (nc:Nat) (base:Nat) (S:List SPlace) (most i:Int) (c:CapsL) (st:Sst):Prop where
 empty:st.empty=false
 s0:0≤st.steps
 s1:st.steps≤F
 most:0≤most→(st.ends.length:Int) < most
 base:base≤S.length
 i0:0≤i
 i1:i≤t.length
 caps:CapsOk t c
 cl:c.length=nc
def SimS (t:List Int) (F:Int) (nc:Nat) (most:Int) (task:ETask) (st:Sst) (b:Bool) (st':Sst):Prop :=
 st'.steps≤100000000→∀(base:Nat) (S:List SPlace),match task with
  | .run h i c=>PreS t F nc base S most i c st→∀m g,MSS t F m S st.steps→GRS g h→GKS nc i st.steps h→ConS t F nc base S most i m ⟨i,some (padC c),g⟩ true st b st'
  | .rep re k nx i c=>PreS t F nc base S most i c st→∀m g,MSS t F m S st.steps→GRS g nx→GKS nc i st.steps nx→re.every (vS nc)=true→re.op=4→0≤k→k≤st.steps→∀ext,
    (re.mode=2→ConS t F nc base S most i m ⟨i,some (padC c),.tree re ext g⟩ true st b st')∧(re.mode≠2→∀re0,RTS re0 re→ConS t F nc base S most i m ⟨i,some (padC c),.round re0 ext k g⟩ true st b st')
  | .node re nx i c=>PreS t F nc base S most i c st→∀m g,MSS t F m S st.steps→GRS g nx→GKS nc i st.steps nx→re.every (vS nc)=true→∀ext,ConS t F nc base S most i m ⟨i,some (padC c),.tree re ext g⟩ true st b st'
  | .body re nx i c=>PreS t F nc base S most i c st→∀m g,MSS t F m S st.steps→GRS g nx→GKS nc i st.steps nx→re.every (vS nc)=true→re.op≠4→(S.length:Int) + 1000≤1000 * st.steps→∀ext,
    ∃m1 p1 a1,(∃k,SEv k (.op re ext ⟨i,some (padC c),g⟩) m m1 p1 a1)∧FrS m m1∧ConS t F nc base S most i m1 p1 a1 st b st'
  | .alt l nx i c=>PreS t F nc base S most i c st→∀m g,GRS g nx→GKS nc i st.steps nx→(∀k∈l,k.every (vS nc)=true) →
    match l with
    | []=>MSS t F m S st.steps→∀p,ConS t F nc base S most i m p false st b st'
    | kid::l'=>MSS t F m (S++altQ ⟨i,some (padC c),g⟩ l') st.steps→ConS t F nc base S most i m ⟨i,some (padC c),.tree kid [] g⟩ true st b st'
  | .behind re kid nx i c j=>PreS t F nc base S most i c st→∀m g,MSS t F m S st.steps→GRS g nx→GKS nc i st.steps nx→kid.every (vS nc)=true→(j:Int)≤i + 1 →
    ∃m1 p1 a1,(∃k,SEv k (.behind re kid ⟨i,some (padC c),g⟩ j) m m1 p1 a1)∧FrS m m1∧ConS t F nc base S most i m1 p1 a1 st b st'
theorem step_msS {t:List Int} {F:Int} {m:Smt} {S:List SPlace} {s:Int} (hM:MSS t F m S s) (h:s < F):MSS t F m.step S (s + 1)∧FrS m m.step:=by
 have hs:m.step={ m with steps:=m.steps + 1 }:=step_of (by rw[hM.steps,hM.fuel]; exact h)
 refine⟨?_,frS_step m⟩
 rw[hs]
 exact⟨hM.t,hM.fuel,hM.stk,by show m.steps + 1=_; rw[hM.steps],hM.spent,by have:=hM.room; omega⟩
theorem step_outS {t:List Int} {F:Int} {m:Smt} {S:List SPlace} {s:Int} (hM:MSS t F m S s) (h:F≤s) (h0:0≤s) (hB:s≤100000000):SSpent t F m.step∧StkS m.step S:=by
 have hs:m.step={ m with spent:=true }:=step_out_of (by rw[hM.steps,hM.fuel]; exact h)
 have h1:=hM.steps
 have h2:=hM.stk.2
 have h3:=hM.room
 rw[hs]
 exact⟨⟨hM.t,hM.fuel,rfl,by show F≤m.steps; omega,by show 0≤m.steps; omega,by show m.steps≤_; omega,hM.stk.len,by show m.top≤_; omega⟩,hM.stk⟩
theorem push_msS {t:List Int} {F:Int} {m:Smt} {S:List SPlace} {s:Int} (hM:MSS t F m S s) (q:SPlace) (h:(S.length:Int) + 1≤1000 * s):MSS t F (m.push q) (S++[q]) s :=
 ⟨hM.t,hM.fuel,hM.stk.push q,hM.steps,hM.spent,by rw[List.length_append]; simpa using h⟩
theorem pop_msS {t:List Int} {F:Int} {m:Smt} {S:List SPlace} {q:SPlace} {s:Int} (hM:MSS t F m (S++[q]) s):MSS t F m.pop S s :=
 ⟨hM.t,hM.fuel,hM.stk.last.2,hM.steps,hM.spent,by have:=hM.room; rw[List.length_append] at this; simp at this; omega⟩
theorem MSS.good {t:List Int} {F:Int} {m:Smt} {S:List SPlace} {s:Int} (h:MSS t F m S s) (ht:t.length≤1000000) (h0:0≤s) (hB:s≤100000000) {p:SPlace} (hi0:0≤p.at_) (hi1:p.at_≤t.length):SGood m p:=by
 have h1:=h.steps
 have h2:=h.stk.2
 have h3:=h.room
 exact⟨by omega,by omega,h.stk.len,by omega,hi0,by rw[h.t]; exact hi1,by rw[h.t]; exact ht⟩
theorem step_true {F:Int} {st:Sst} (he:(st.step F).empty=false):st.empty=false∧st.steps < F:=by
 simp only[Sst.step,Bool.or_eq_false_iff,decide_eq_false_iff_not] at he
 exact⟨he.1,by omega⟩
theorem step_false {F:Int} {st:Sst} (h:st.empty=false) (he:(st.step F).empty=true):F≤st.steps:=by
 simp only[Sst.step,h,Bool.false_or,decide_eq_true_eq] at he
 omega
theorem PreS.step {t:List Int} {F:Int} {nc base:Nat} {S:List SPlace} {most i:Int} {c:CapsL} {st:Sst} (h:PreS t F nc base S most i c st) (he:(st.step F).empty=false):PreS t F nc base S most i c (st.step F):=by
 have:=step_true he
 have:=h.s0
 exact⟨he,by show 0≤st.steps + 1; omega,by show st.steps + 1≤F; omega,h.most,h.base,h.i0,h.i1,h.caps,h.cl⟩
theorem PreS.sub {t:List Int} {F:Int} {nc base:Nat} {S:List SPlace} {most i:Int} {c:CapsL} {st:Sst} (h:PreS t F nc base S most i c st) {q:Int} (h0:0≤q) (h1:q≤t.length):PreS t F nc S.length S 1 q c st.sub :=
 ⟨rfl,h.s0,h.s1,fun _=>by show ((0:Nat):Int) < 1; omega,Nat.le_refl _,h0,h1,h.caps,h.cl⟩
theorem PreS.aft {t:List Int} {F:Int} {nc base:Nat} {S:List SPlace} {most i:Int} {c:CapsL} {st x:Sst} (h:PreS t F nc base S most i c st) (hx:x.empty=false) (hs:st.steps≤x.steps) (hF:x.steps≤F) {e:Int} {d:CapsL} (h0:i≤e) (h1:e≤t.length) (hd:CapsOk t d) (hdl:d.length=nc):PreS t F nc base S most e d (st.aft x) :=
 ⟨hx,by show 0≤x.steps; have:=h.s0; omega,hF,h.most,h.base,by have:=h.i0; omega,h1,hd,hdl⟩
theorem PreS.on {t:List Int} {F:Int} {nc base:Nat} {S S':List SPlace} {most i:Int} {c:CapsL} {st s2:Sst} (h:PreS t F nc base S most i c st) (he:s2.empty=false) (hs:st.steps≤s2.steps) (hF:s2.steps≤F) (hm:0≤most→(s2.ends.length:Int) < most) (hb:base≤S'.length):PreS t F nc base S' most i c s2 :=
 ⟨he,by have:=h.s0; omega,hF,hm,hb,h.i0,h.i1,h.caps,h.cl⟩
theorem RTS.eqs {re0 re:Re} (h:RTS re0 re):re0.kids=re.kids∧re0.mn=re.mn∧re0.mx=re.mx∧(re.mode≠2→(re0.mode=1 ↔ re.mode=1)):=by
 rcases h with ⟨rfl,_⟩ | ⟨h2,rfl⟩
 ·exact⟨rfl,rfl,rfl,fun _=>Iff.rfl⟩
 ·refine⟨rfl,rfl,rfl,fun _=>?_⟩
  rw[h2]; simp [Re.setMode,Re.mode]
theorem setMode_vS {nc:Int} {re:Re} (h:re.every (vS nc)=true) (m:Int):(re.setMode m).every (vS nc)=true:=by
 rw[Re.every_iff] at h ⊢
 exact⟨h.1,h.2⟩
theorem setMode_mode (re:Re) (m:Int):(re.setMode m).mode=m:=rfl
section sim
variable {t:List Int} {F:Int} {nc:Nat} (X:FxS t nc)
include X
theorem first_refS {h:Goal} {q:Int} {c:CapsL} {st x:Sst} {b:Bool} {base:Nat} {S:List SPlace} {most i:Int} {m:Smt} {g:SGoal} (ih:SimS t F nc 1 (.run h q c) st.sub b x) (hB:st.steps≤100000000) (hBx:x.steps≤100000000)
  (hP:PreS t F nc base S most i c st) (h0:0≤q) (h1:q≤t.length) (hM:MSS t F m S st.steps) (hg:GRS g h) (hk:GKS nc q st.steps h):FirstPost t F nc S q m ⟨q,some (padC c),g⟩ x :=
 first_simS X.ht hM hB fun m0 _ hM0=>ih hBx S.length S (hP.sub h0 h1) m0 g hM0 hg hk
theorem legalS {i:Int} {c:CapsL} {base:Nat} {S:List SPlace} {most s:Int} {st:Sst} {h:Goal} {g:SGoal} (hP:PreS t F nc base S most i c st) (hg:GRS g h) (hk:GKS nc i s h):SLegal t ⟨i,some (padC c),g⟩ :=
 ⟨hP.i0,hP.i1,⟨_,rfl,padC_len (by rw[hP.cl]; exact X.nc)⟩,gk_sk (by have:=X.nc; omega) hg hk⟩
theorem after_simS {i q:Int} {c:CapsL} {base:Nat} {S:List SPlace} {most:Int} {st x st':Sst} {b:Bool} {h:Goal} {g:SGoal} {m:Smt} {p:SPlace} {p0:SPlace} (hn:p.todo≠.nil) (hP:PreS t F nc base S most i c st) (hg:GRS g h) (hk:GKS nc i st.steps h) (hiq:i≤q) (hst:st.steps≤x.steps)
  (hf:FirstPost t F nc S q m p0 x) (hc:∀m1 r f,(∃k,SEv k (.first p0) m m1 r f)→CallS m p m1 { r with todo:=g } f)
  (hout:x.empty=true→b=true∧st'=st.aft x) (hno:x.empty=false→x.ends=[]→b=false∧st'=st.aft x)
  (hyes:∀e d,x.empty=false→x.ends=[e]→x.caps=[d]→i≤e→e≤t.length→CapsOk t d→d.length=nc→x.steps≤F→∀m1,MSS t F m1 S x.steps→ConS t F nc base S most e m1 ⟨e,some (padC d),g⟩ true (st.aft x) b st'):ConS t F nc base S most i m p true st b st':=by
 obtain⟨m1,r,f,k1,k2,k3⟩:=hf
 have hcall:=hc m1 r f k1
 refine ConS.call hn hcall k2 (ConS.weak (s0:=st.aft x) (i':=i) ?_ (Int.le_refl _) rfl rfl)
 rcases k3 with ⟨j1,j2,j3,⟨rfl,e,d,l1,l2,rfl,l3,l4,l5,l6⟩ | ⟨rfl,l1,l2⟩⟩ | ⟨j1,j2,j3,j4⟩
 ·exact(hyes e d j1 l1 l2 (by omega) l4 l5 l6 j3 m1 j2).weak (by omega) rfl rfl
 ·obtain⟨rfl,rfl⟩:=hno j1 l1
  exact ConS.no j2 j1 hP.most j3
 ·obtain⟨rfl,rfl⟩:=hout j1
  refine ConS.out j2 j3 (fun hf=>?_) j1 hP.most rfl rfl
  have:=j4 hf
  exact⟨this.a0,this.a1,this.caps,gk_sk (by have:=X.nc; omega) hg hk⟩
theorem sim_rounds {most k i:Int} {re kid:Re} {l:List Re} {c:CapsL} {st:Sst} {base:Nat} {S:List SPlace} (hP:PreS t F nc base S most i c st) (hB:(st.step F).steps≤100000000) {m:Smt} {g:SGoal} (hM:MSS t F m S st.steps) (hv:re.every (vS nc)=true) (o4:re.op=4) (h0:0≤k) (h1:k≤st.steps) (ext:List D) {re0:Re} (hr:RTS re0 re) (hm:re.mode≠2)
  (he:(st.step F).empty=false) (hkk:re.kids=kid::l) :
  (k < re.mn→CallS m ⟨i,some (padC c),.round re0 ext k g⟩ m.step ⟨i,some (padC c),.tree kid [] (.round re0 ext (k + 1) g)⟩ true) ∧
  (¬k < re.mn→¬(re.mx=-1∨k < re.mx)→CallS m ⟨i,some (padC c),.round re0 ext k g⟩ m.step ⟨i,some (padC c),g⟩ true) ∧
  (¬k < re.mn→(re.mx=-1∨k < re.mx)→re.mode=1→CallS m ⟨i,some (padC c),.round re0 ext k g⟩ (m.step.push ⟨i,some (padC c),.tree kid [] (.moved i re0 ext (k + 1) g)⟩) ⟨i,some (padC c),g⟩ true) ∧
  (¬k < re.mn→(re.mx=-1∨k < re.mx)→re.mode≠1→CallS m ⟨i,some (padC c),.round re0 ext k g⟩ (m.step.push ⟨i,some (padC c),g⟩) ⟨i,some (padC c),.tree kid [] (.moved i re0 ext (k + 1) g)⟩ true):=by
 obtain⟨e1,e2,e3,e4⟩:=hr.eqs
 have hst:(st.step F).steps=st.steps + 1:=rfl
 have hg:SGood m ⟨i,some (padC c),.round re0 ext k g⟩:=hM.good X.ht hP.s0 (by omega) hP.i0 hP.i1
 have hf:m.steps < m.fuel:=by rw[hM.steps,hM.fuel]; exact(step_true he).2
 have hkk0:re0.kids=kid::l:=by rw[e1]; exact hkk
 have hmx:=(vS_iff hv).1.2.2.2.2.2.2.1 o4
 refine⟨fun hk=>?_,fun hk hx=>?_,fun hk hx ho=>?_,fun hk hx ho=>?_⟩
 ·exact⟨0,.roundMin hg hkk0 h0 (by omega) hf (by rw[e2]; exact hk)⟩
 ·exact⟨0,.roundMax hg hkk0 hf (by rw[e2]; exact hk) (by rw[e3]; omega) (by rw[e3]; omega)⟩
 ·exact⟨0,.roundLazy hg hkk0 h0 (by omega) hf (by rw[e2]; exact hk) (by rw[e3]; omega) ((e4 hm).2 ho)⟩
 ·exact⟨0,.roundMore hg hkk0 h0 (by omega) hf (by rw[e2]; exact hk) (by rw[e3]; omega) (fun h=>ho ((e4 hm).1 h))⟩
end sim
theorem once_gk {nc:Nat} {k i s:Int} {re kid:Re} {l:List Re} {nx:Goal} (hv:re.every (vS nc)=true) (o4:re.op=4) (hm:re.mode≠2) (h0:0≤k) (h1:k < s) (hkk:re.kids=kid::l) (hk:GKS nc i s nx):GKS nc i s (.mk 0 kid 0 0 (.mk 2 re k i nx)) :=
 ⟨fun _=>(vS_iff hv).2 kid (by rw[hkk]; simp),fun h=>by omega,fun h=>by omega,fun h=>by omega,fun h=>by omega,fun _=>hv,fun _=>⟨o4,hm,h0⟩,fun h=>by omega,fun _=>h1,fun h=>by omega,hk⟩
theorem kid_gk {nc:Nat} {i s:Int} {kid:Re} {nx:Goal} (hv:kid.every (vS nc)=true) (hk:GKS nc i s nx):GKS nc i s (.mk 0 kid 0 0 nx) :=
 ⟨fun _=>hv,fun h=>by omega,fun h=>by omega,fun h=>by omega,fun h=>by omega,hk⟩
theorem here_gk {nc:Nat} {q i s:Int} {kid:Re} (hv:kid.every (vS nc)=true):GKS nc q s (.mk 0 kid 0 0 (hereG i)) :=
 kid_gk hv ⟨fun h=>absurd rfl h,fun h=>by omega,fun h=>by omega,fun h=>by omega,fun h=>by omega,trivial⟩
section sim
variable {t:List Int} {F:Int} {nc:Nat} (X:FxS t nc)
include X
theorem spanS {most i:Int} {re:Re} {c:CapsL} {st:Sst} {base:Nat} {S:List SPlace} (hP:PreS t F nc base S most i c st) (hv:re.every (vS nc)=true) (ho:re.op=5∨re.op=6∨re.op=10) :
  ∃x,1≤re.n∧spanR c re.n=x∧(padC c)[(re.n - 1).toNat]?=some x∧-1000000≤x.1∧-1000000≤x.2∧x.1≤1000000∧x.2≤1000000:=by
 obtain⟨w1,w2⟩:=(vS_iff hv).1.2.2.2.2.1 ho
 have hcl:=hP.cl
 have hlt:(re.n - 1).toNat < c.length:=by omega
 have hsp:spanR c re.n=c.getD (re.n - 1).toNat (-1,-1):=by unfold spanR; rw[if_neg (by omega)]
 have hgo:=span_get hP.caps re.n
 have ht:=X.ht
 refine⟨_,w1,rfl,?_,?_⟩
 ·rw[padC_get hlt,hsp,List.getD_eq_getElem?_getD,List.getElem?_eq_getElem hlt]; rfl
 ·rcases hgo with hgo | hgo
  ·rw[hgo]; simp
  ·omega
theorem refS {most i:Int} {re:Re} {c:CapsL} {st:Sst} {base:Nat} {S:List SPlace} (hP:PreS t F nc base S most i c st) (hv:re.every (vS nc)=true) (ho:re.op=6) :
  ∃x,1≤re.n∧spanR c re.n=x∧(padC c)[(re.n - 1).toNat]?=some x∧-1000000≤x.1∧-1000000≤x.2∧x.1≤1000000∧x.2≤1000000:=spanS X hP hv (.inr (.inl ho))
theorem look_legal {most i s:Int} {re:Re} {c:CapsL} {st:Sst} {base:Nat} {S:List SPlace} {nx:Goal} {g:SGoal} {r:SPlace} {f:Bool} (hP:PreS t F nc base S most i c st) (hg:GRS g nx) (hk:GKS nc i s nx) (hr:f=true→SLegal t r) :
  (if re.neg=true then !f else f)=true→SLegal t (lookS re ⟨i,some (padC c),g⟩ r):=by
 intro h
 unfold lookS
 by_cases hn:re.neg=true
 ·rw[if_pos hn]; exact legalS X hP hg hk
 ·rw[if_neg hn] at h ⊢
  have h1:=legalS X hP hg hk
  exact⟨h1.a0,h1.a1,(hr h).caps,h1.todo⟩
theorem simS {most:Int} {task:ETask} {st st':Sst} {b:Bool} (h:EvI t F most task st b st'):SimS t F nc most task st b st':=by
 have hncX:(nc:Int)≤9:=by have:=X.nc; omega
 induction h with
 | @found most i c st h0 h1 hl hl1 =>
  intro hB base S hP m g hM hg hk
  cases hg
  have hends:((st.ends++[i]).length:Int)=st.ends.length + 1:=by simp
  cases hb:(decide (0≤most)&&decide (most≤(st.ends.length:Int) + 1)) with
  | true =>
   simp only[Bool.and_eq_true,decide_eq_true_eq] at hb
   have:=hP.most hb.1
   exact⟨[(i,c)],m,rfl,rfl,fun r hr=>by rw[List.mem_singleton.1 hr]; exact⟨Int.le_refl _,h1,hP.caps,hP.cl⟩,.refl m,.inr (.inl ⟨rfl,hP.empty,hb.1,by simp only[hends]; omega,hP.s1,[],[],i,c,by simpa using hM,rfl,.refl _ _ _⟩)⟩
  | false =>
   refine⟨[(i,c)],m,rfl,rfl,fun r hr=>by rw[List.mem_singleton.1 hr]; exact⟨Int.le_refl _,h1,hP.caps,hP.cl⟩,.refl m,.inl ⟨rfl,hP.empty,fun hm=>?_,hM,hP.s1,.zero,.emit (.refl _ _ _)⟩⟩
   have:=hP.most hm
   simp only[hends]
   by_cases hle:most≤(st.ends.length:Int) + 1
   ·rw[decide_eq_true hm,decide_eq_true hle] at hb; cases hb
   ·omega
 | tree hk1 hk2 hk3 hk4 h0 h1 _ ih =>
  intro hB base S hP m g hM hg hk
  cases hg with
  | tree hg=>exact ih hB base S hP m _ hM hg hk.2.2.2.2.2 (hk.1 hk4) _
  | round=>exact absurd rfl hk1
  | more=>exact absurd rfl hk2
  | moved=>exact absurd rfl hk2
  | fin=>exact absurd rfl hk3
  | here=>exact absurd rfl hk4
 | goRep h0 h1 _ ih =>
  intro hB base S hP m g hM hg hk
  cases hg with
  | round ht hg =>
   obtain⟨k1,k2,k3,k4,k5,k6⟩:=hk
   obtain⟨o4,hm,hk0⟩:=k2 (.inl rfl)
   exact(ih hB base S hP m _ hM hg k6 (k1 (by decide)) o4 hk0 (k3 rfl) _).2 hm _ ht
 | stay h0 h1 hk1 hi =>
  intro hB base S hP m g hM hg hk
  cases hg with
  | more ht hn hg=>omega
  | moved ht hn hg =>
   subst hi
   exact ConS.call (by simp) ⟨0,.stay⟩ (.refl m) (ConS.no hM hP.empty hP.most hP.s1)
 | @iter most k f i re nx c st st' b h0 h1 hki hk0 hk1 hev ih =>
  intro hB base S hP m g hM hg hk
  obtain⟨k1,k2,k3,k4,k5,k6⟩:=hk
  obtain⟨o4,hm,hk0'⟩:=k2 (.inr rfl)
  have hlt:=k4 rfl
  have hk':GKS nc i st.steps (.mk 1 re (k + 1) 0 nx):=⟨fun _=>k1 (by decide),fun _=>⟨o4,hm,by omega⟩,fun _=>by omega,fun h=>by omega,fun h=>by omega,k6⟩
  cases hg with
  | more ht hn hg=>exact ih hB base S hP m _ hM (.round ht hg) hk'
  | @moved re0 _ ext _ _ g0 _ ht hn hg =>
   have hcon:=ih hB base S hP m _ hM (.round (ext:=ext) ht hg) hk'
   refine ConS.same (p:=⟨i,some (padC c),.round re0 ext (k + 1) g0⟩) (by simp) (by simp) hM.spent (fun m1 p1 a1 hc=>?_) hcon
   obtain⟨n,hc⟩:=hc
   exact⟨n + 1,.moved (Nat.lt_succ_self n) (fun h=>hki ⟨hn,h⟩) hc⟩
 | @save most k f i re nx c st st' b h0 h1 hev ih =>
  intro hB base S hP m g hM hg hk
  obtain⟨k1,k2,k3,k4,k5,k6⟩:=hk
  obtain⟨o5,f0,f1⟩:=k5 rfl
  obtain⟨w1,w2⟩:=(vS_iff (k1 (by decide))).1.2.2.2.2.1 (.inl o5)
  have hcl:=hP.cl
  have hw:withR c re.n f i=c.set (re.n - 1).toNat (f,i):=by unfold withR; rw[if_pos ⟨w1,by omega⟩]
  obtain⟨c1,c2⟩:=CapsOk.with (n:=re.n) hP.caps f0 f1 h1
  cases hg with
  | @fin _ ext _ _ g0 _ hg =>
   have hcall:CallS m ⟨i,some (padC c),.fin f re ext g0⟩ m ⟨i,some ((padC c).set (re.n - 1).toNat (f,i)),g0⟩ true:=⟨0,.fin (padC_len (by omega)) w1 (by omega)⟩
   rw[padC_set (by omega),← hw] at hcall
   exact ConS.call (by simp) hcall (.refl m) (ih hB base S ⟨hP.empty,hP.s0,hP.s1,hP.most,hP.base,hP.i0,hP.i1,c1,by rw[c2]; exact hcl⟩ m _ hM hg k6)
 | @here most k f i re nx c st st' b h0 h1 hi hev ih =>
  intro hB base S hP m g hM hg hk
  obtain⟨k1,k2,k3,k4,k5,k6⟩:=hk
  cases hg with
  | @here _ _ _ c' u g0 _ hg =>
   have hcall:CallS m ⟨i,some (padC c),.here f c' u g0⟩ m ⟨i,some (padC c),g0⟩ (decide (i=f)):=⟨0,.here⟩
   rw[decide_eq_true hi] at hcall
   exact ConS.call (by simp) hcall (.refl m) (ih hB base S hP m _ hM hg k6)
 | @gone most k f i re nx c st h0 h1 hi =>
  intro hB base S hP m g hM hg hk
  cases hg with
  | @here _ _ _ c' u g0 _ hg =>
   have hcall:CallS m ⟨i,some (padC c),.here f c' u g0⟩ m ⟨i,some (padC c),g0⟩ (decide (i=f)):=⟨0,.here⟩
   rw[decide_eq_false hi] at hcall
   exact ConS.call (by simp) hcall (.refl m) (ConS.no hM hP.empty hP.most hP.s1)
 | @possOut most k i re nx c st x b hm hev hx ih =>
  intro hB base S hP m g hM hg hk hv o4 hk0 hk1 ext
  refine⟨fun _=>?_,fun h=>absurd hm h⟩
  have hst:st.steps≤x.steps:=hev.steps
  have hBx:x.steps≤100000000:=hB
  have hf:=first_refS X ih (by omega) hBx hP hP.i0 hP.i1 hM (g:=.round re ext 0 .nil) (.round (.inr ⟨hm,rfl⟩) .nil) ⟨fun _=>setMode_vS hv 0,fun _=>⟨o4,by rw[setMode_mode]; decide,Int.le_refl _⟩,fun _=>hP.s0,fun h=>by omega,fun h=>by omega,trivial⟩
  refine after_simS X (by simp) hP hg hk (Int.le_refl _) hst hf (fun m1 r f hc=>?_) (fun _=>⟨rfl,rfl⟩) (fun h=>by rw[hx] at h; cases h) (fun e d h=>by rw[hx] at h; cases h)
  obtain⟨n,hc⟩:=hc
  exact⟨n + 2,.rep (Nat.lt_succ_self _) o4 (.repP (p:=⟨i,some (padC c),g⟩) (Nat.lt_succ_self n) o4 hm hc)⟩
 | @possNo most k i re nx c st x b hm hev hx he ih =>
  intro hB base S hP m g hM hg hk hv o4 hk0 hk1 ext
  refine⟨fun _=>?_,fun h=>absurd hm h⟩
  have hst:st.steps≤x.steps:=hev.steps
  have hBx:x.steps≤100000000:=hB
  have hf:=first_refS X ih (by omega) hBx hP hP.i0 hP.i1 hM (g:=.round re ext 0 .nil) (.round (.inr ⟨hm,rfl⟩) .nil) ⟨fun _=>setMode_vS hv 0,fun _=>⟨o4,by rw[setMode_mode]; decide,Int.le_refl _⟩,fun _=>hP.s0,fun h=>by omega,fun h=>by omega,trivial⟩
  refine after_simS X (by simp) hP hg hk (Int.le_refl _) hst hf (fun m1 r f hc=>?_) (fun h=>by rw[hx] at h; cases h) (fun _ _=>⟨rfl,rfl⟩) (fun e d _ h=>by rw[he] at h; cases h)
  obtain⟨n,hc⟩:=hc
  exact⟨n + 2,.rep (Nat.lt_succ_self _) o4 (.repP (p:=⟨i,some (padC c),g⟩) (Nat.lt_succ_self n) o4 hm hc)⟩
 | @possYes most k i e re nx c d le ld st x st' b b' hm hev hx he hd hev2 ih ih2 =>
  intro hB base S hP m g hM hg hk hv o4 hk0 hk1 ext
  refine⟨fun _=>?_,fun h=>absurd hm h⟩
  have hst:st.steps≤x.steps:=hev.steps
  have hst2:x.steps≤st'.steps:=hev2.steps
  have hf:=first_refS X ih (by omega) (by omega) hP hP.i0 hP.i1 hM (g:=.round re ext 0 .nil) (.round (.inr ⟨hm,rfl⟩) .nil) ⟨fun _=>setMode_vS hv 0,fun _=>⟨o4,by rw[setMode_mode]; decide,Int.le_refl _⟩,fun _=>hP.s0,fun h=>by omega,fun h=>by omega,trivial⟩
  refine after_simS X (by simp) hP hg hk (Int.le_refl _) hst hf (fun m1 r f hc=>?_) (fun h=>by rw[hx] at h; cases h) (fun _ h=>by rw[he] at h; cases h) (fun e1 d1 _ l1 l2 l3 l4 l5 l6 lF m1 hM1=>?_)
  ·obtain⟨n,hc⟩:=hc
   exact⟨n + 2,.rep (Nat.lt_succ_self _) o4 (.repP (p:=⟨i,some (padC c),g⟩) (Nat.lt_succ_self n) o4 hm hc)⟩
  ·rw[he] at l1; rw[hd] at l2
   cases l1; cases l2
   exact ih2 hB base S (hP.aft hx hst lF l3 l4 l5 l6) m1 g hM1 hg (hk.mono l3 hst)
 | @repOut most k i re nx c st hm hs he =>
  intro hB base S hP m g hM hg hk hv o4 hk0 hk1 ext
  refine⟨fun h=>absurd h hm,fun _ re0 hr=>?_⟩
  have hB1:st.steps + 1≤100000000:=hB
  have hF:=step_false hP.empty he
  obtain⟨q1,q2⟩:=step_outS hM hF hP.s0 (by omega)
  exact ConS.call (by simp) ⟨0,.roundOut (hM.good X.ht hP.s0 (by omega) hP.i0 hP.i1) (by rw[hM.steps,hM.fuel]; exact hF)⟩ (frS_step m) (ConS.out q1 q2 (fun h=>by cases h) he hP.most rfl rfl)
 | @repMin most k i re kid l nx c st st' b hm hs he hkk hkm hev ih =>
  intro hB base S hP m g hM hg hk hv o4 hk0 hk1 ext
  refine⟨fun h=>absurd h hm,fun _ re0 hr=>?_⟩
  have hss:=hev.steps
  have hst:(st.step F).steps=st.steps + 1:=rfl
  obtain⟨hM1,hfr⟩:=step_msS hM (step_true he).2
  have hc:=(sim_rounds X hP (by omega) hM (g:=g) hv o4 hk0 hk1 ext hr hm he hkk).1 hkm
  refine ConS.call (by simp) hc hfr ((ih hB base S (hP.step he) _ _ hM1 (.tree (.more hr hkm hg)) (once_gk hv o4 hm hk0 (by omega) hkk (hk.mono (Int.le_refl _) (by omega)))).weak (Int.le_refl _) rfl rfl)
 | @repMax most k i re kid l nx c st st' b hm hs he hkk hkm hx hev ih =>
  intro hB base S hP m g hM hg hk hv o4 hk0 hk1 ext
  refine⟨fun h=>absurd h hm,fun _ re0 hr=>?_⟩
  have hss:=hev.steps
  have hst:(st.step F).steps=st.steps + 1:=rfl
  obtain⟨hM1,hfr⟩:=step_msS hM (step_true he).2
  have hc:=(sim_rounds X hP (by omega) hM (g:=g) hv o4 hk0 hk1 ext hr hm he hkk).2.1 hkm hx
  exact ConS.call (by simp) hc hfr ((ih hB base S (hP.step he) _ _ hM1 hg (hk.mono (Int.le_refl _) (by omega))).weak (Int.le_refl _) rfl rfl)
 | @lazyT most k i re kid l nx c st st' hm hs he hkk hkm hx hev ih =>
  intro hB base S hP m g hM hg hk hv o4 hk0 hk1 ext
  refine⟨fun h=>by omega,fun hm2 re0 hr=>?_⟩
  have hss:=hev.steps
  have hst:(st.step F).steps=st.steps + 1:=rfl
  obtain⟨hM1,hfr⟩:=step_msS hM (step_true he).2
  have hc:=(sim_rounds X hP (by omega) hM (g:=g) hv o4 hk0 hk1 ext hr hm2 he hkk).2.2.1 hkm hx hm
  have hM2:=push_msS hM1 ⟨i,some (padC c),.tree kid [] (.moved i re0 ext (k + 1) g)⟩ (by have:=hM.room; omega)
  have hP1:=(hP.step he).on (S':=S++[⟨i,some (padC c),.tree kid [] (.moved i re0 ext (k + 1) g)⟩]) he (Int.le_refl _) (hP.step he).s1 (hP.step he).most (by rw[List.length_append]; have:=hP.base; omega)
  exact ConS.call (by simp) hc (hfr.trans (frS_push _ _)) (ConS.grow ((ih hB base _ hP1 _ _ hM2 hg (hk.mono (Int.le_refl _) (by omega))).weak (Int.le_refl _) rfl rfl))
 | @lazyF most k i re kid l nx c st s2 st' b hm hs he hkk hkm hx hev hev2 ih ih2 =>
  intro hB base S hP m g hM hg hk hv o4 hk0 hk1 ext
  refine⟨fun h=>by omega,fun hm2 re0 hr=>?_⟩
  have hss:=hev.steps
  have hss2:=hev2.steps
  have hst:(st.step F).steps=st.steps + 1:=rfl
  obtain⟨hM1,hfr⟩:=step_msS hM (step_true he).2
  have hc:=(sim_rounds X hP (by omega) hM (g:=g) hv o4 hk0 hk1 ext hr hm2 he hkk).2.2.1 hkm hx hm
  have hM2:=push_msS hM1 ⟨i,some (padC c),.tree kid [] (.moved i re0 ext (k + 1) g)⟩ (by have:=hM.room; omega)
  have hP1:=(hP.step he).on (S':=S++[⟨i,some (padC c),.tree kid [] (.moved i re0 ext (k + 1) g)⟩]) he (Int.le_refl _) (hP.step he).s1 (hP.step he).most (by rw[List.length_append]; have:=hP.base; omega)
  refine ConS.call (by simp) hc (hfr.trans (frS_push _ _)) (ConS.weak (s0:=st.step F) ?_ (Int.le_refl _) rfl rfl)
  refine ConS.then (ih (by omega) base _ hP1 _ _ hM2 hg (hk.mono (Int.le_refl _) (by omega))) (fun m2 p2 hfr2 hM3 he2 hF2 hm3=>?_)
  refine ConS.pop hM3 hP.base (by have:=hM3.room; have:=hM3.stk.2; omega) ?_
  exact ih2 hB base S ((hP.step he).on he2 hss hF2 hm3 hP.base) _ _ (pop_msS hM3) (.tree (.moved hr (by omega) hg)) (once_gk hv o4 hm2 hk0 (by omega) hkk (hk.mono (Int.le_refl _) (by omega)))
 | @moreT most k i re kid l nx c st st' hm2 hm hs he hkk hkm hx hev ih =>
  intro hB base S hP m g hM hg hk hv o4 hk0 hk1 ext
  refine⟨fun h=>absurd h hm2,fun _ re0 hr=>?_⟩
  have hss:=hev.steps
  have hst:(st.step F).steps=st.steps + 1:=rfl
  obtain⟨hM1,hfr⟩:=step_msS hM (step_true he).2
  have hc:=(sim_rounds X hP (by omega) hM (g:=g) hv o4 hk0 hk1 ext hr hm2 he hkk).2.2.2 hkm hx hm
  have hM2:=push_msS hM1 ⟨i,some (padC c),g⟩ (by have:=hM.room; omega)
  have hP1:=(hP.step he).on (S':=S++[⟨i,some (padC c),g⟩]) he (Int.le_refl _) (hP.step he).s1 (hP.step he).most (by rw[List.length_append]; have:=hP.base; omega)
  exact ConS.call (by simp) hc (hfr.trans (frS_push _ _)) (ConS.grow ((ih hB base _ hP1 _ _ hM2 (.tree (.moved hr (by omega) hg)) (once_gk hv o4 hm2 hk0 (by omega) hkk (hk.mono (Int.le_refl _) (by omega)))).weak (Int.le_refl _) rfl rfl))
 | @moreF most k i re kid l nx c st s2 st' b hm2 hm hs he hkk hkm hx hev hev2 ih ih2 =>
  intro hB base S hP m g hM hg hk hv o4 hk0 hk1 ext
  refine⟨fun h=>absurd h hm2,fun _ re0 hr=>?_⟩
  have hss:=hev.steps
  have hss2:=hev2.steps
  have hst:(st.step F).steps=st.steps + 1:=rfl
  obtain⟨hM1,hfr⟩:=step_msS hM (step_true he).2
  have hc:=(sim_rounds X hP (by omega) hM (g:=g) hv o4 hk0 hk1 ext hr hm2 he hkk).2.2.2 hkm hx hm
  have hM2:=push_msS hM1 ⟨i,some (padC c),g⟩ (by have:=hM.room; omega)
  have hP1:=(hP.step he).on (S':=S++[⟨i,some (padC c),g⟩]) he (Int.le_refl _) (hP.step he).s1 (hP.step he).most (by rw[List.length_append]; have:=hP.base; omega)
  refine ConS.call (by simp) hc (hfr.trans (frS_push _ _)) (ConS.weak (s0:=st.step F) ?_ (Int.le_refl _) rfl rfl)
  refine ConS.then (ih (by omega) base _ hP1 _ _ hM2 (.tree (.moved hr (by omega) hg)) (once_gk hv o4 hm2 hk0 (by omega) hkk (hk.mono (Int.le_refl _) (by omega)))) (fun m2 p2 hfr2 hM3 he2 hF2 hm3=>?_)
  refine ConS.pop hM3 hP.base (by have:=hM3.room; have:=hM3.stk.2; omega) ?_
  exact ih2 hB base S ((hP.step he).on he2 hss hF2 hm3 hP.base) _ _ (pop_msS hM3) hg (hk.mono (Int.le_refl _) (by omega))
 | @nodeRep most i re nx c st st' b ho h0 h1 hev ih =>
  intro hB base S hP m g hM hg hk hv ext
  by_cases hm:re.mode=2
  ·exact(ih hB base S hP m g hM hg hk hv ho (Int.le_refl _) hP.s0 ext).1 hm
  ·refine ConS.call (by simp) ⟨1,.rep (Nat.lt_succ_self 0) ho (.repN (p:=⟨i,some (padC c),g⟩) ho hm)⟩ (.refl m) ?_
   exact(ih hB base S hP m g hM hg hk hv ho (Int.le_refl _) hP.s0 ext).2 hm re (.inl ⟨rfl,hm⟩)
 | @nodeOut most i re nx c st ho hs he =>
  intro hB base S hP m g hM hg hk hv ext
  have hB1:st.steps + 1≤100000000:=hB
  have hF:=step_false hP.empty he
  obtain⟨q1,q2⟩:=step_outS hM hF hP.s0 (by omega)
  exact ConS.call (by simp) ⟨0,.treeOut (hM.good X.ht hP.s0 (by omega) hP.i0 hP.i1) ho (by rw[hM.steps,hM.fuel]; exact hF)⟩ (frS_step m) (ConS.out q1 q2 (fun h=>by cases h) he hP.most rfl rfl)
 | @node most i re nx c st st' b ho hs he hev ih =>
  intro hB base S hP m g hM hg hk hv ext
  have hss:=hev.steps
  have hst:(st.step F).steps=st.steps + 1:=rfl
  obtain⟨hM1,hfr⟩:=step_msS hM (step_true he).2
  obtain⟨m1,p1,a1,⟨n,hn⟩,k2,k3⟩:=ih hB base S (hP.step he) m.step g hM1 hg (hk.mono (Int.le_refl _) (by omega)) hv ho (by have:=hM.room; omega) ext
  exact ConS.call (by simp) ⟨n + 1,.tree (Nat.lt_succ_self n) (hM.good X.ht hP.s0 (by omega) hP.i0 hP.i1) ho (by rw[hM.steps,hM.fuel]; exact(step_true he).2) hn⟩ (hfr.trans k2) (k3.weak (Int.le_refl _) rfl rfl)
 | @empty most i re nx c st st' b ho hev ih =>
  intro hB base S hP m g hM hg hk hv o4 hroom ext
  obtain⟨_,_,_,_,_,_,_,w1,w2⟩:=(vS_iff hv).1
  have ho0:re.op=0:=by simp at ho; omega
  exact⟨m,_,true,⟨0,.empty ho0⟩,.refl m,ih hB base S hP m g hM hg hk⟩
 | @setYes most i re nx c st st' b ho hi hs hev ih =>
  intro hB base S hP m g hM hg hk hv o4 hroom ext
  have hss:=hev.steps
  obtain⟨_,_,w,_⟩:=(vS_iff hv).1
  have hgd:SGood m ⟨i,some (padC c),g⟩:=hM.good X.ht hP.s0 (by omega) hP.i0 hP.i1
  refine⟨m,_,true,⟨0,.setIn ho hgd w (by rw[hM.t]; exact hi) (by rw[hM.t]; exact hs)⟩,.refl m,?_⟩
  exact(ih hB base S ⟨hP.empty,hP.s0,hP.s1,hP.most,hP.base,by have:=hP.i0; omega,by omega,hP.caps,hP.cl⟩ m g hM hg (hk.mono (by omega) (Int.le_refl _))).weak (by omega) rfl rfl
 | @setNo most i re nx c st ho hn =>
  intro hB base S hP m g hM hg hk hv o4 hroom ext
  obtain⟨_,_,w,_⟩:=(vS_iff hv).1
  have hgd:SGood m ⟨i,some (padC c),g⟩:=hM.good X.ht hP.s0 hB hP.i0 hP.i1
  have hno:∀p:SPlace,ConS t F nc base S most i m p false st false st:=fun p=>ConS.no hM hP.empty hP.most hP.s1
  by_cases hi:i < t.length
  ·have hs:inB re.set (tAt t i)=false:=by
    cases h:inB re.set (tAt t i) with
    | true=>exact absurd ⟨hi,h⟩ hn
    | false=>rfl
   exact⟨m,_,false,⟨0,.setNo ho hgd w (by rw[hM.t]; exact hi) (by rw[hM.t]; exact hs)⟩,.refl m,hno _⟩
  ·exact⟨m,_,false,⟨0,.setOut ho (by rw[hM.t]; exact hi)⟩,.refl m,hno _⟩
 | @cat most i re nx c st st' b ho hev ih =>
  intro hB base S hP m g hM hg hk hv o4 hroom ext
  obtain⟨⟨_,_,_,w,_⟩,hvk⟩:=vS_iff hv
  exact⟨m,_,true,⟨0,.cat ho (by omega)⟩,.refl m,ih hB base S hP m _ hM (push_grS hg re.kids) (push_gkS hk re.kids hvk)⟩
 | @alt most i re nx c st st' b ho hev ih =>
  intro hB base S hP m g hM hg hk hv o4 hroom ext
  have hss:=hev.steps
  obtain⟨⟨v1,_,_,w,_⟩,hvk⟩:=vS_iff hv
  have hih:=ih hB base S hP
  cases hkk:re.kids with
  | nil=>exact absurd hkk (v1 (.inl ho))
  | cons kid l =>
   rw[hkk] at hih hvk w
   simp only[List.length_cons] at w
   have hgd:SGood m ⟨i,some (padC c),g⟩:=hM.good X.ht hP.s0 (by omega) hP.i0 hP.i1
   have hfr:=frS_alt l ⟨i,some (padC c),g⟩ m
   obtain⟨e1,e2⟩:=altP_same (p:=⟨i,some (padC c),g⟩) l m
   refine⟨_,_,true,⟨0,.alt ho hkk (by rw[hkk,List.length_cons]; omega) hgd⟩,hfr,hih _ g hg hk hvk ⟨by rw[hfr.t]; exact hM.t,by rw[hfr.fuel]; exact hM.fuel,altP_stk l m S hM.stk,by rw[e1]; exact hM.steps,by rw[e2]; exact hM.spent,?_⟩⟩
   rw[List.length_append,altQ_len]
   omega
 | @altNil most i nx c st =>
  intro hB base S hP m g hg hk hv hM p
  exact ConS.no hM hP.empty hP.most hP.s1
 | @altT most i kid l nx c st st' hev ih =>
  intro hB base S hP m g hg hk hv hM
  exact ConS.grow (ih hB base _ (hP.on hP.empty (Int.le_refl _) hP.s1 hP.most (by rw[List.length_append]; have:=hP.base; omega)) m _ hM (.tree hg) (kid_gk (hv kid (by simp)) hk))
 | @altF most i kid l nx c st s2 st' b hev hev2 ih ih2 =>
  intro hB base S hP m g hg hk hv hM
  have hss:=hev.steps
  have hss2:=hev2.steps
  refine ConS.then (ih (by omega) base _ (hP.on hP.empty (Int.le_refl _) hP.s1 hP.most (by rw[List.length_append]; have:=hP.base; omega)) m _ hM (.tree hg) (kid_gk (hv kid (by simp)) hk)) (fun m2 p2 hfr2 hM2 he2 hF2 hm2=>?_)
  have hih2:=ih2 hB base S (hP.on he2 hss hF2 hm2 hP.base)
  cases l with
  | nil =>
   have hM2:MSS t F m2 (S++[]) s2.steps:=hM2
   rw[List.append_nil] at hM2
   exact hih2 m2 g hg (hk.mono (Int.le_refl _) hss) (fun k hk=>by cases hk) hM2 p2
  | cons k2 l2 =>
   rw[altQ_cons,← List.append_assoc] at hM2
   have hroom2:=hM2.room
   have htop2:=hM2.stk.2
   refine ConS.pop hM2 (by rw[List.length_append]; have:=hP.base; omega) (by omega) ?_
   exact hih2 _ g hg (hk.mono (Int.le_refl _) hss) (fun k hk=>hv k (by simp [hk])) (pop_msS hM2)
 | @cap most i re kid l nx c st st' b ho hkk hev ih =>
  intro hB base S hP m g hM hg hk hv o4 hroom ext
  obtain⟨_,hvk⟩:=vS_iff hv
  refine⟨m,_,true,⟨0,.capture ho hkk⟩,.refl m,ih hB base S hP m _ hM (.tree (.fin hg)) (kid_gk (hvk kid (by rw[hkk]; simp)) ?_)⟩
  exact⟨fun _=>hv,fun h=>by omega,fun h=>by omega,fun h=>by omega,fun _=>⟨ho,hP.i0,Int.le_refl _⟩,hk⟩
 | @refNone most i re nx c st ho hx =>
  intro hB base S hP m g hM hg hk hv o4 hroom ext
  obtain⟨x,w1,hsp,hgx,hb⟩:=refS X hP hv ho
  rw[hsp] at hx
  have hgd:SGood m ⟨i,some (padC c),g⟩:=hM.good X.ht hP.s0 hB hP.i0 hP.i1
  exact⟨m,_,false,⟨0,.refNo ho hgd rfl (padC_len (by rw[hP.cl]; exact X.nc)) w1 hgx hb (.inl hx)⟩,.refl m,ConS.no hM hP.empty hP.most hP.s1⟩
 | @refLong most i re nx c st ho hx h12 h2 hl =>
  intro hB base S hP m g hM hg hk hv o4 hroom ext
  obtain⟨x,w1,hsp,hgx,hb⟩:=refS X hP hv ho
  rw[hsp] at hx h12 h2 hl
  have hgd:SGood m ⟨i,some (padC c),g⟩:=hM.good X.ht hP.s0 hB hP.i0 hP.i1
  exact⟨m,_,false,⟨0,.refNo ho hgd rfl (padC_len (by rw[hP.cl]; exact X.nc)) w1 hgx hb (.inr (by rw[hM.t]; show (t.length:Int) - i < _; omega))⟩,.refl m,ConS.no hM hP.empty hP.most hP.s1⟩
 | @refYes most i re nx c st st' b ho hx h12 h2 hl hs hev ih =>
  intro hB base S hP m g hM hg hk hv o4 hroom ext
  have hss:=hev.steps
  obtain⟨⟨x1,x2⟩,w1,hsp,hgx,hb⟩:=refS X hP hv ho
  have hi0:=hP.i0
  rw[hsp] at hx h12 h2 hl hs
  simp only[hsp] at ih
  simp only at hx h12 h2 hl hs ih
  obtain⟨n1,rfl⟩:∃n:Nat,x1=n:=⟨x1.toNat,by omega⟩
  obtain⟨n2,rfl⟩:∃n:Nat,x2=n:=⟨x2.toNat,by omega⟩
  have hgd:SGood m ⟨i,some (padC c),g⟩:=hM.good X.ht hP.s0 (by omega) hP.i0 hP.i1
  have e1:((n2:Int) - (n1:Int)).toNat=n2 - n1:=by omega
  have e2:i + (n2:Int) - (n1:Int)=i + ((n2 - n1:Nat):Int):=by omega
  rw[e1] at hs
  rw[e2] at ih
  have hop:=SEv.refYes (n:=0) (ext:=ext) (m:=m) (p:=⟨i,some (padC c),g⟩) ho hgd rfl (padC_len (by rw[hP.cl]; exact X.nc)) w1 hgx (by omega) (by rw[hM.t]; omega) (by rw[hM.t]; show i + _≤_; omega)
  rw[hM.t,hs,if_pos rfl] at hop
  refine⟨m,_,true,⟨0,hop⟩,.refl m,?_⟩
  exact(ih hB base S ⟨hP.empty,hP.s0,hP.s1,hP.most,hP.base,by omega,by omega,hP.caps,hP.cl⟩ m g hM hg (hk.mono (by omega) (Int.le_refl _))).weak (by omega) rfl rfl
 | @refNo most i re nx c st ho hx h12 h2 hl hs =>
  intro hB base S hP m g hM hg hk hv o4 hroom ext
  obtain⟨⟨x1,x2⟩,w1,hsp,hgx,hb⟩:=refS X hP hv ho
  have hi0:=hP.i0
  rw[hsp] at hx h12 h2 hl hs
  simp only at hx h12 h2 hl hs
  obtain⟨n1,rfl⟩:∃n:Nat,x1=n:=⟨x1.toNat,by omega⟩
  obtain⟨n2,rfl⟩:∃n:Nat,x2=n:=⟨x2.toNat,by omega⟩
  have hgd:SGood m ⟨i,some (padC c),g⟩:=hM.good X.ht hP.s0 hB hP.i0 hP.i1
  have e1:((n2:Int) - (n1:Int)).toNat=n2 - n1:=by omega
  rw[e1] at hs
  have hop:=SEv.refYes (n:=0) (ext:=ext) (m:=m) (p:=⟨i,some (padC c),g⟩) ho hgd rfl (padC_len (by rw[hP.cl]; exact X.nc)) w1 hgx (by omega) (by rw[hM.t]; omega) (by rw[hM.t]; show i + _≤_; omega)
  rw[hM.t,hs] at hop
  exact⟨m,_,false,⟨0,hop⟩,.refl m,ConS.no hM hP.empty hP.most hP.s1⟩
 | @cond most i re yes no l nx c st st' b ho hkk hev ih =>
  intro hB base S hP m g hM hg hk hv o4 hroom ext
  obtain⟨_,hvk⟩:=vS_iff hv
  obtain⟨x,w1,hsp,hgx,hb⟩:=spanS X hP hv (.inr (.inr ho))
  rw[hsp] at ih
  refine⟨m,_,true,⟨0,.cond ho hkk rfl (padC_len (by rw[hP.cl]; exact X.nc)) w1 hgx⟩,.refl m,ih hB base S hP m _ hM (.tree hg) (kid_gk ?_ hk)⟩
  split
  ·exact hvk yes (by rw[hkk]; simp)
  ·exact hvk no (by rw[hkk]; simp)
 | @assertYes most i re nx c st st' b ho hh hev ih =>
  intro hB base S hP m g hM hg hk hv o4 hroom ext
  have hss:=hev.steps
  obtain⟨_,_,_,_,_,w,_⟩:=(vS_iff hv).1
  have hgd:SGood m ⟨i,some (padC c),g⟩:=hM.good X.ht hP.s0 (by omega) hP.i0 hP.i1
  have hop:=SEv.assert (n:=0) (ext:=ext) ho hgd (w ho).1 (w ho).2
  rw[hM.t,hh] at hop
  exact⟨m,_,true,⟨0,hop⟩,.refl m,ih hB base S hP m g hM hg hk⟩
 | @assertNo most i re nx c st ho hh =>
  intro hB base S hP m g hM hg hk hv o4 hroom ext
  obtain⟨_,_,_,_,_,w,_⟩:=(vS_iff hv).1
  have hgd:SGood m ⟨i,some (padC c),g⟩:=hM.good X.ht hP.s0 hB hP.i0 hP.i1
  have hop:=SEv.assert (n:=0) (ext:=ext) ho hgd (w ho).1 (w ho).2
  rw[hM.t,hh] at hop
  exact⟨m,_,false,⟨0,hop⟩,.refl m,ConS.no hM hP.empty hP.most hP.s1⟩
 | @aheadOut most i re kid l nx c st x b ho hkk hev hx ih =>
  intro hB base S hP m g hM hg hk hv o4 hroom ext
  have hst:st.steps≤x.steps:=hev.steps
  have hBx:x.steps≤100000000:=hB
  have hkv:=(vS_iff hv).2 kid (by rw[hkk]; simp)
  obtain⟨m1,r,f,⟨n,hn1⟩,k2,k3⟩:=first_refS X ih (by omega) (by omega) hP hP.i0 hP.i1 hM (g:=.tree kid [] .nil) (.tree .nil) (kid_gk hkv trivial)
  refine⟨m1,_,_,⟨n + 1,.ahead (p:=⟨i,some (padC c),g⟩) (Nat.lt_succ_self n) ho hkk hn1⟩,k2,ConS.weak (s0:=st.aft x) (i':=i) ?_ (Int.le_refl _) rfl rfl⟩
  rcases k3 with ⟨j1,_⟩ | ⟨j1,j2,j3,j4⟩
  ·rw[hx] at j1; cases j1
  ·exact ConS.out j2 j3 (look_legal X hP hg hk j4) j1 hP.most rfl rfl
 | @aheadNo most i re kid l nx c st x b ho hkk hev hx he hn ih =>
  intro hB base S hP m g hM hg hk hv o4 hroom ext
  have hst:st.steps≤x.steps:=hev.steps
  have hBx:x.steps≤100000000:=hB
  have hkv:=(vS_iff hv).2 kid (by rw[hkk]; simp)
  obtain⟨m1,r,f,⟨n,hn1⟩,k2,k3⟩:=first_refS X ih (by omega) (by omega) hP hP.i0 hP.i1 hM (g:=.tree kid [] .nil) (.tree .nil) (kid_gk hkv trivial)
  refine⟨m1,_,_,⟨n + 1,.ahead (p:=⟨i,some (padC c),g⟩) (Nat.lt_succ_self n) ho hkk hn1⟩,k2,ConS.weak (s0:=st.aft x) (i':=i) ?_ (Int.le_refl _) rfl rfl⟩
  rcases k3 with ⟨j1,j2,j3,⟨rfl,e,d,l1,_⟩ | ⟨rfl,l1,l2⟩⟩ | ⟨j1,_⟩
  ·rw[he] at l1; cases l1
  ·rw[if_neg (by rw[hn]; exact Bool.false_ne_true)]
   exact ConS.no j2 j1 hP.most j3
  ·rw[hx] at j1; cases j1
 | @aheadNoNeg most i re kid l nx c st x st' b b' ho hkk hev hx he hn hev2 ih ih2 =>
  intro hB base S hP m g hM hg hk hv o4 hroom ext
  have hst:st.steps≤x.steps:=hev.steps
  have hst2:x.steps≤st'.steps:=hev2.steps
  have hkv:=(vS_iff hv).2 kid (by rw[hkk]; simp)
  obtain⟨m1,r,f,⟨n,hn1⟩,k2,k3⟩:=first_refS X ih (by omega) (by omega) hP hP.i0 hP.i1 hM (g:=.tree kid [] .nil) (.tree .nil) (kid_gk hkv trivial)
  refine⟨m1,_,_,⟨n + 1,.ahead (p:=⟨i,some (padC c),g⟩) (Nat.lt_succ_self n) ho hkk hn1⟩,k2,ConS.weak (s0:=st.aft x) (i':=i) ?_ (Int.le_refl _) rfl rfl⟩
  rcases k3 with ⟨j1,j2,j3,⟨rfl,e,d,l1,_⟩ | ⟨rfl,l1,l2⟩⟩ | ⟨j1,_⟩
  ·rw[he] at l1; cases l1
  ·rw[if_pos hn]
   unfold lookS
   rw[if_pos hn]
   exact ih2 hB base S (hP.aft hx hst j3 (Int.le_refl _) hP.i1 hP.caps hP.cl) m1 g j2 hg (hk.mono (Int.le_refl _) hst)
  ·rw[hx] at j1; cases j1
 | @aheadYes most i e re kid l nx c d le ld st x st' b b' ho hkk hev hx he hd hn hev2 ih ih2 =>
  intro hB base S hP m g hM hg hk hv o4 hroom ext
  have hst:st.steps≤x.steps:=hev.steps
  have hst2:x.steps≤st'.steps:=hev2.steps
  have hkv:=(vS_iff hv).2 kid (by rw[hkk]; simp)
  obtain⟨m1,r,f,⟨n,hn1⟩,k2,k3⟩:=first_refS X ih (by omega) (by omega) hP hP.i0 hP.i1 hM (g:=.tree kid [] .nil) (.tree .nil) (kid_gk hkv trivial)
  refine⟨m1,_,_,⟨n + 1,.ahead (p:=⟨i,some (padC c),g⟩) (Nat.lt_succ_self n) ho hkk hn1⟩,k2,ConS.weak (s0:=st.aft x) (i':=i) ?_ (Int.le_refl _) rfl rfl⟩
  rcases k3 with ⟨j1,j2,j3,⟨rfl,e1,d1,l1,l2,rfl,l3,l4,l5,l6⟩ | ⟨rfl,l1,l2⟩⟩ | ⟨j1,_⟩
  ·rw[he] at l1; rw[hd] at l2
   cases l1; cases l2
   rw[if_neg (by rw[hn]; exact Bool.false_ne_true)]
   unfold lookS
   rw[if_neg (by rw[hn]; exact Bool.false_ne_true)]
   exact ih2 hB base S (hP.aft hx hst j3 (Int.le_refl _) hP.i1 l5 l6) m1 g j2 hg (hk.mono (Int.le_refl _) hst)
  ·rw[he] at l1; cases l1
  ·rw[hx] at j1; cases j1
 | @aheadYesNeg most i e re kid l nx c d le ld st x b ho hkk hev hx he hd hn ih =>
  intro hB base S hP m g hM hg hk hv o4 hroom ext
  have hst:st.steps≤x.steps:=hev.steps
  have hBx:x.steps≤100000000:=hB
  have hkv:=(vS_iff hv).2 kid (by rw[hkk]; simp)
  obtain⟨m1,r,f,⟨n,hn1⟩,k2,k3⟩:=first_refS X ih (by omega) (by omega) hP hP.i0 hP.i1 hM (g:=.tree kid [] .nil) (.tree .nil) (kid_gk hkv trivial)
  refine⟨m1,_,_,⟨n + 1,.ahead (p:=⟨i,some (padC c),g⟩) (Nat.lt_succ_self n) ho hkk hn1⟩,k2,ConS.weak (s0:=st.aft x) (i':=i) ?_ (Int.le_refl _) rfl rfl⟩
  rcases k3 with ⟨j1,j2,j3,⟨rfl,e1,d1,l1,l2,rfl,l3,l4,l5,l6⟩ | ⟨rfl,l1,l2⟩⟩ | ⟨j1,_⟩
  ·rw[if_pos hn]
   exact ConS.no j2 j1 hP.most j3
  ·rw[he] at l1; cases l1
  ·rw[hx] at j1; cases j1
 | @atomOut most i re kid l nx c st x b ho hkk hev hx ih =>
  intro hB base S hP m g hM hg hk hv o4 hroom ext
  have hst:st.steps≤x.steps:=hev.steps
  have hBx:x.steps≤100000000:=hB
  have hkv:=(vS_iff hv).2 kid (by rw[hkk]; simp)
  obtain⟨m1,r,f,⟨n,hn1⟩,k2,k3⟩:=first_refS X ih (by omega) (by omega) hP hP.i0 hP.i1 hM (g:=.tree kid [] .nil) (.tree .nil) (kid_gk hkv trivial)
  refine⟨m1,_,_,⟨n + 1,.atom (p:=⟨i,some (padC c),g⟩) (Nat.lt_succ_self n) ho hkk hn1⟩,k2,ConS.weak (s0:=st.aft x) (i':=i) ?_ (Int.le_refl _) rfl rfl⟩
  rcases k3 with ⟨j1,_⟩ | ⟨j1,j2,j3,j4⟩
  ·rw[hx] at j1; cases j1
  ·refine ConS.out j2 j3 (fun hf=>?_) j1 hP.most rfl rfl
   have:=j4 hf
   exact⟨this.a0,this.a1,this.caps,gk_sk hncX hg hk⟩
 | @atomNo most i re kid l nx c st x b ho hkk hev hx he ih =>
  intro hB base S hP m g hM hg hk hv o4 hroom ext
  have hst:st.steps≤x.steps:=hev.steps
  have hBx:x.steps≤100000000:=hB
  have hkv:=(vS_iff hv).2 kid (by rw[hkk]; simp)
  obtain⟨m1,r,f,⟨n,hn1⟩,k2,k3⟩:=first_refS X ih (by omega) (by omega) hP hP.i0 hP.i1 hM (g:=.tree kid [] .nil) (.tree .nil) (kid_gk hkv trivial)
  refine⟨m1,_,_,⟨n + 1,.atom (p:=⟨i,some (padC c),g⟩) (Nat.lt_succ_self n) ho hkk hn1⟩,k2,ConS.weak (s0:=st.aft x) (i':=i) ?_ (Int.le_refl _) rfl rfl⟩
  rcases k3 with ⟨j1,j2,j3,⟨rfl,e,d,l1,_⟩ | ⟨rfl,l1,l2⟩⟩ | ⟨j1,_⟩
  ·rw[he] at l1; cases l1
  ·exact ConS.no j2 j1 hP.most j3
  ·rw[hx] at j1; cases j1
 | @atomYes most i e re kid l nx c d le ld st x st' b b' ho hkk hev hx he hd hev2 ih ih2 =>
  intro hB base S hP m g hM hg hk hv o4 hroom ext
  have hst:st.steps≤x.steps:=hev.steps
  have hst2:x.steps≤st'.steps:=hev2.steps
  have hkv:=(vS_iff hv).2 kid (by rw[hkk]; simp)
  obtain⟨m1,r,f,⟨n,hn1⟩,k2,k3⟩:=first_refS X ih (by omega) (by omega) hP hP.i0 hP.i1 hM (g:=.tree kid [] .nil) (.tree .nil) (kid_gk hkv trivial)
  refine⟨m1,_,_,⟨n + 1,.atom (p:=⟨i,some (padC c),g⟩) (Nat.lt_succ_self n) ho hkk hn1⟩,k2,ConS.weak (s0:=st.aft x) (i':=i) ?_ (Int.le_refl _) rfl rfl⟩
  rcases k3 with ⟨j1,j2,j3,⟨rfl,e1,d1,l1,l2,rfl,l3,l4,l5,l6⟩ | ⟨rfl,l1,l2⟩⟩ | ⟨j1,_⟩
  ·rw[he] at l1; rw[hd] at l2
   cases l1; cases l2
   exact(ih2 hB base S (hP.aft hx hst j3 l3 l4 l5 l6) m1 g j2 hg (hk.mono l3 hst)).weak l3 rfl rfl
  ·rw[he] at l1; cases l1
  ·rw[hx] at j1; cases j1
 | @behind most i re kid l nx c st st' b ho hkk he hev ih =>
  intro hB base S hP m g hM hg hk hv o4 hroom ext
  have hkv:=(vS_iff hv).2 kid (by rw[hkk]; simp)
  have hi0:=hP.i0
  have hi1:=hP.i1
  have ht:=X.ht
  obtain⟨m1,p1,a1,⟨n,hn⟩,k2,k3⟩:=ih hB base S hP m g hM hg hk hkv (by omega)
  exact⟨m1,p1,a1,⟨n + 1,.behind (p:=⟨i,some (padC c),g⟩) (Nat.lt_succ_self n) ho hkk hi0 (by show i≤_; omega) hn⟩,k2,k3⟩
 | @bhNo most i re kid nx c st hn =>
  intro hB base S hP m g hM hg hk hkv hj
  have h0:=SEv.behindNo (n:=0) (j:=0) (m:=m) (re:=re) (kid:=kid) (p:=⟨i,some (padC c),g⟩) (.inl rfl)
  rw[if_neg (by rw[hn]; exact Bool.false_ne_true)] at h0
  exact⟨m,_,_,⟨0,h0⟩,.refl m,ConS.no hM hP.empty hP.most hP.s1⟩
 | @bhNoNeg most i re kid nx c st st' b hn hev ih =>
  intro hB base S hP m g hM hg hk hkv hj
  have h0:=SEv.behindNo (n:=0) (j:=0) (m:=m) (re:=re) (kid:=kid) (p:=⟨i,some (padC c),g⟩) (.inl rfl)
  unfold lookS at h0
  rw[if_pos hn,if_pos hn] at h0
  exact⟨m,_,_,⟨0,h0⟩,.refl m,ih hB base S hP m g hM hg hk⟩
 | @bhOut most i j re kid nx c st x b hev hx ih =>
  intro hB base S hP m g hM hg hk hkv hj
  have hst:st.steps≤x.steps:=hev.steps
  have hBx:x.steps≤100000000:=hB
  have hi0:=hP.i0
  have hi1:=hP.i1
  obtain⟨m1,r,f,⟨n,hn1⟩,k2,k3⟩:=first_refS X ih (by omega) (by omega) hP (by omega) (by omega) hM (g:=.tree kid [] (.here i (some (padC c)) g .nil)) (.tree (.here .nil)) (here_gk hkv)
  rcases k3 with ⟨j1,_⟩ | ⟨j1,j2,j3,j4⟩
  ·rw[hx] at j1; cases j1
  ·cases f with
   | true =>
    refine⟨m1,_,_,⟨n + 1,.behindYes (p:=⟨i,some (padC c),g⟩) (Nat.lt_succ_self n) hM.spent hn1⟩,k2,ConS.weak (s0:=st.aft x) (i':=i) (ConS.out j2 j3 (fun hf=>?_) j1 hP.most rfl rfl) (Int.le_refl _) rfl rfl⟩
    exact look_legal (f:=true) X hP hg hk j4 (by cases hneg:re.neg with
     | true=>rw[hneg] at hf; cases hf
     | false=>rfl)
   | false =>
    refine⟨m1,_,_,⟨n + 1,.behindMore (p:=⟨i,some (padC c),g⟩) (Nat.lt_succ_self n) (Nat.succ_pos n) hM.spent hn1 (.behindNo (n:=0) (.inr j2.spent))⟩,k2,ConS.weak (s0:=st.aft x) (i':=i) (ConS.out j2 j3 (fun hf=>?_) j1 hP.most rfl rfl) (Int.le_refl _) rfl rfl⟩
    exact look_legal (r:=.zero) (f:=false) X hP hg hk (fun h=>by cases h) (by cases hneg:re.neg with
     | true=>rfl
     | false=>rw[hneg] at hf; cases hf)
 | @bhYes most i e j re kid nx c d le ld st x st' b b' hev hx he hd hn hev2 ih ih2 =>
  intro hB base S hP m g hM hg hk hkv hj
  have hst:st.steps≤x.steps:=hev.steps
  have hst2:x.steps≤st'.steps:=hev2.steps
  have hi0:=hP.i0
  have hi1:=hP.i1
  obtain⟨m1,r,f,⟨n,hn1⟩,k2,k3⟩:=first_refS X ih (by omega) (by omega) hP (by omega) (by omega) hM (g:=.tree kid [] (.here i (some (padC c)) g .nil)) (.tree (.here .nil)) (here_gk hkv)
  rcases k3 with ⟨j1,j2,j3,⟨rfl,e1,d1,l1,l2,rfl,l3,l4,l5,l6⟩ | ⟨rfl,l1,l2⟩⟩ | ⟨j1,_⟩
  ·rw[he] at l1; rw[hd] at l2
   cases l1; cases l2
   have hop:=SEv.behindYes (re:=re) (p:=⟨i,some (padC c),g⟩) (Nat.lt_succ_self n) hM.spent hn1
   unfold lookS at hop
   rw[if_neg (by rw[hn]; exact Bool.false_ne_true),if_neg (by rw[hn]; exact Bool.false_ne_true)] at hop
   exact⟨m1,_,_,⟨n + 1,hop⟩,k2,(ih2 hB base S (hP.aft hx hst j3 (Int.le_refl _) hP.i1 l5 l6) m1 g j2 hg (hk.mono (Int.le_refl _) hst)).weak (Int.le_refl _) rfl rfl⟩
  ·rw[he] at l1; cases l1
  ·rw[hx] at j1; cases j1
 | @bhYesNeg most i e j re kid nx c d le ld st x b hev hx he hd hn ih =>
  intro hB base S hP m g hM hg hk hkv hj
  have hst:st.steps≤x.steps:=hev.steps
  have hBx:x.steps≤100000000:=hB
  have hi0:=hP.i0
  have hi1:=hP.i1
  obtain⟨m1,r,f,⟨n,hn1⟩,k2,k3⟩:=first_refS X ih (by omega) (by omega) hP (by omega) (by omega) hM (g:=.tree kid [] (.here i (some (padC c)) g .nil)) (.tree (.here .nil)) (here_gk hkv)
  rcases k3 with ⟨j1,j2,j3,⟨rfl,e1,d1,l1,l2,rfl,l3,l4,l5,l6⟩ | ⟨rfl,l1,l2⟩⟩ | ⟨j1,_⟩
  ·have hop:=SEv.behindYes (re:=re) (p:=⟨i,some (padC c),g⟩) (Nat.lt_succ_self n) hM.spent hn1
   rw[if_pos hn] at hop
   exact⟨m1,_,_,⟨n + 1,hop⟩,k2,(ConS.no (st:=st.aft x) j2 j1 hP.most j3).weak (Int.le_refl _) rfl rfl⟩
  ·rw[he] at l1; cases l1
  ·rw[hx] at j1; cases j1
 | @bhMore most i j re kid nx c st x st' b b' hev hx he hev2 ih ih2 =>
  intro hB base S hP m g hM hg hk hkv hj
  have hst:st.steps≤x.steps:=hev.steps
  have hst2:x.steps≤st'.steps:=hev2.steps
  have hi0:=hP.i0
  have hi1:=hP.i1
  obtain⟨m1,r,f,⟨n,hn1⟩,k2,k3⟩:=first_refS X ih (by omega) (by omega) hP (by omega) (by omega) hM (g:=.tree kid [] (.here i (some (padC c)) g .nil)) (.tree (.here .nil)) (here_gk hkv)
  rcases k3 with ⟨j1,j2,j3,⟨rfl,e,d,l1,_⟩ | ⟨rfl,l1,l2⟩⟩ | ⟨j1,_⟩
  ·rw[he] at l1; cases l1
  ·obtain⟨m2,p2,a2,⟨n2,q1⟩,q2,q3⟩:=ih2 hB base S (hP.aft hx hst j3 (Int.le_refl _) hP.i1 hP.caps hP.cl) m1 g j2 hg (hk.mono (Int.le_refl _) hst) hkv (by omega)
   exact⟨m2,p2,a2,⟨max n n2 + 1,.behindMore (p:=⟨i,some (padC c),g⟩) (by omega) (by omega) hM.spent hn1 q1⟩,k2.trans q2,q3.weak (Int.le_refl _) rfl rfl⟩
  ·rw[hx] at j1; cases j1
end sim
end Go.Proofs.Ytpppfpaalcbggaa
