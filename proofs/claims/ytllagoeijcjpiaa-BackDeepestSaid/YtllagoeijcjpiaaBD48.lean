/- A part of the proof (G59 G50 G60 G51 G52). -/
import Derived.Test.YtllagoeijcjpiaaBD3
import Derived.Test.YtllagoeijcjpiaaBD20
import Derived.Test.YtllagoeijcjpiaaBD22
import Derived.Test.YtllagoeijcjpiaaBD41
import Derived.Test.YtllagoeijcjpiaaBD47
set_option linter.unusedSimpArgs false
set_option linter.unusedVariables false
set_option maxRecDepth 100000
set_option maxHeartbeats 80000000
namespace Go.Proofs.Ytllagoeijcjpiaa
open Go.VL Go.Proofs.Try
def aB.up (r o:Bool) (w:List Int) (g:Nat) (m:aB):aB:={ m with ready:=r,bq:=o,own:=w,ew:=g }
section up
variable {r o:Bool}{w:List Int}{g:Nat}{t0:List Int}
theorem GC (m:aB):(m.up r o w g).step=m.step.up r o w g:=by
 unfold aB.step aB.up
 simp only
 split <;> rfl
theorem Ec (m:aB) (x:aG):(m.up r o w g).lit x=m.lit x:=by cases x <;> rfl
variable {rec:Rec} (ht:∀m base p x,rec m base p=some x→x.1.t=m.t) (h:∀m base p x,m.t=t0→rec m base p=some x→rec (m.up r o w g) base p=some (x.1.up r o w g,x.2))
include h
theorem Cb {m:aB}{p:ao}{x:Rs} (hm:m.t=t0) (hx:bY rec m p=some x):bY rec (m.up r o w g) p=some (x.1.up r o w g,x.2):=by
 unfold bY at hx ⊢
 cases hr:rec m m.top p with
 |none=>rw[hr]at hx;cases hx
 |some y =>
  obtain⟨m1,p1,f⟩:=y
  rw[hr]at hx
  have:=h m m.top p _ hm hr
  show (match rec (m.up r o w g) m.top p with
   |none=>none
   |some (m',p',found)=>if m'.top<m.top∨m'.dY.length<m'.top then none else some (m'.clear m.top,p',found))=_
  rw[this]
  simp only at hx ⊢
  split at hx
  ·cases hx
  ·rename_i hc
   cases hx
   rw[if_neg (show ¬((m1.up r o w g).top<m.top∨(m1.up r o w g).dY.length<(m1.up r o w g).top) from hc)]
   rfl
theorem C6 {m:aB}{p:ao}{part:aI}{x:Rs} (hm:m.t=t0) (hx:fp rec m p part=some x):fp rec (m.up r o w g) p part=some (x.1.up r o w g,x.2):=by
 unfold fp at hx ⊢
 cases hr:bY rec m { p with todo:=part } with
 |none=>rw[hr]at hx;cases hx
 |some y =>
  obtain⟨m1,p1,f⟩:=y
  rw[hr]at hx
  rw[Cb h hm hr]
  cases hx
  rfl
omit h in
theorem FO {f:Int→aB→Option Rs} (OG:∀k m x,f k m=some x→x.1.t=m.t) (hf:∀k m x,m.t=t0→f k m=some x→f k (m.up r o w g)=some (x.1.up r o w g,x.2)) {neg:Bool}{p:ao}{last:Int}:∀(j:Nat) (m:aB) (x:Rs),m.t=t0→dz f neg p last j m=some x→dz f neg p last j (m.up r o w g)=some (x.1.up r o w g,x.2)
 |0,m,x,_,hx=>by
  simp only[dz]at hx ⊢
  cases hx
  rfl
 |j+1,m,x,hm,hx=>by
  simp only[dz]at hx ⊢
  by_cases hs:m.aW=true
  ·rw[if_pos hs]at hx
   rw[if_pos (show (m.up r o w g).aW=true from hs)]
   cases hx
   rfl
  ·rw[if_neg hs]at hx
   rw[if_neg (show ¬(m.up r o w g).aW=true from hs)]
   cases hr:f (last+j) m with
   |none=>rw[hr]at hx;cases hx
   |some y =>
    obtain⟨m1,q,found⟩:=y
    rw[hr]at hx
    rw[hf _ _ _ hm hr]
    simp only at hx ⊢
    cases found with
    |true =>
     simp only[if_true]at hx ⊢
     cases neg with
     |true=>simp only[if_true]at hx ⊢;cases hx;rfl
     |false=>simp only[Vw,if_false]at hx ⊢;cases hx;rfl
    |false =>
     simp only[Vw,if_false]at hx ⊢
     exact FO OG hf j m1 x (by have:=OG _ _ _ hr;simp only at this;rw[this];exact hm) hx
include ht
theorem ID {m:aB}{b:aG}{p:ao}{x:Rs} (hm:m.t=t0) (hx:bj rec m b p=some x):bj rec (m.up r o w g) b p=some (x.1.up r o w g,x.2):=by
 have aH:=GC (r:=r) (o:=o) (w:=w) (g:=g) m
 have Ph:m.step.t=t0:=by rw[m.dI.t];exact hm
 unfold bj at hx ⊢
 rw[Ec]
 cases hl:m.lit b with
 |none=>rw[hl]at hx;cases hx
 |some re =>
  rw[hl]at hx
  simp only at hx ⊢
  rw[aH]
  by_cases c0:1000000000<re.set.length∨1000000000<re.kids.length
  ·rw[if_pos c0]at hx;cases hx
  rw[if_neg c0]at hx ⊢
  by_cases c4:re.op=4
  ·rw[if_pos c4]at hx ⊢
   by_cases cm:re.mode=2
   ·rw[if_pos cm]at hx ⊢;exact C6 h hm hx
   ·rw[if_neg cm]at hx ⊢;cases hx;rfl
  rw[if_neg c4]at hx ⊢
  by_cases cf:m.fuel≤m.steps
  ·rw[if_pos cf]at hx
   rw[if_pos (show (m.up r o w g).fuel≤(m.up r o w g).steps from cf)]
   cases hx;rfl
  rw[if_neg cf]at hx
  rw[if_neg (show ¬(m.up r o w g).fuel≤(m.up r o w g).steps from cf)]
  by_cases c1:re.op=1
  ·rw[if_pos c1]at hx ⊢;cases hx;rfl
  rw[if_neg c1]at hx ⊢
  by_cases c2:re.op=2
  ·rw[if_pos c2]at hx ⊢;cases hx;rfl
  rw[if_neg c2]at hx ⊢
  by_cases c3:re.op=3
  ·rw[if_pos c3]at hx ⊢;cases hx;rfl
  rw[if_neg c3]at hx ⊢
  by_cases c5:re.op=5
  ·rw[if_pos c5]at hx ⊢
   cases hk:re.kids with
   |nil=>rw[hk]at hx;cases hx
   |cons kid l=>rw[hk]at hx;cases hx;rfl
  rw[if_neg c5]at hx ⊢
  by_cases c6:re.op=6
  ·rw[if_pos c6]at hx ⊢
   show (match tb m.step.t re p with
    |none=>none
    |some x=>some (m.step.up r o w g,x))=_
   cases hk:tb m.step.t re p with
   |none=>rw[hk]at hx;cases hx
   |some y=>rw[hk]at hx;cases hx;rfl
  rw[if_neg c6]at hx ⊢
  by_cases c7:re.op=7∨re.op=8
  ·rw[if_pos c7]at hx ⊢
   cases hk:re.kids with
   |nil=>rw[hk]at hx;cases hx
   |cons kid l =>
    rw[hk]at hx
    simp only at hx ⊢
    unfold eX at hx ⊢
    have OG:∀(k:Int) (m:aB) (x:Rs),bY rec m { at_:=k,ai:=p.ai,todo:=cw re.op kid p.at_ }=some x→x.1.t=m.t:=by
     intro k m x hx
     unfold bY at hx
     split at hx
     ·cases hx
     ·rename_i m1 p1 f1 h1
      split at hx
      ·cases hx
      ·cases hx
       have:=ht _ _ _ _ h1
       exact this
    exact FO (f:=fun k m=>bY rec m { at_:=k,ai:=p.ai,todo:=cw re.op kid p.at_ }) OG (fun k m x hm hx=>Cb h hm hx) _ _ _ Ph hx
  rw[if_neg c7]at hx ⊢
  by_cases c9:re.op=9
  ·rw[if_pos c9]at hx ⊢
   cases hk:re.kids with
   |nil=>rw[hk]at hx;cases hx
   |cons kid l =>
    rw[hk]at hx
    exact C6 h Ph hx
  rw[if_neg c9]at hx ⊢
  by_cases PK:re.op=10
  ·rw[if_pos PK]at hx ⊢
   match hk:re.kids with
   |[]=>rw[hk]at hx;cases hx
   |[_]=>rw[hk]at hx;cases hx
   |yes::no::l =>
    rw[hk]at hx
    simp only at hx ⊢
    split at hx
    ·cases hx
    ·rename_i hc;rw[if_neg hc];cases hx;rfl
  rw[if_neg PK]at hx ⊢
  by_cases TE:re.op=11
  ·rw[if_pos TE]at hx ⊢
   split at hx
   ·cases hx
   ·rename_i hc;rw[if_neg hc];cases hx;rfl
  rw[if_neg TE]at hx ⊢
  cases hx;rfl
omit h ht in
theorem JV {m:aB}{b:aG}{n:Int}{p:ao}{x:Rs} (hx:fG m b n p=some x):fG (m.up r o w g) b n p=some (x.1.up r o w g,x.2):=by
 have aH:=GC (r:=r) (o:=o) (w:=w) (g:=g) m
 unfold fG at hx ⊢
 rw[Ec]
 cases hl:m.lit b with
 |none=>rw[hl]at hx;cases hx
 |some re =>
  rw[hl]at hx
  simp only at hx ⊢
  rw[aH]
  cases hk:re.kids with
  |nil=>rw[hk]at hx;cases hx
  |cons kid l =>
   rw[hk]at hx
   simp only at hx ⊢
   by_cases cf:m.fuel≤m.steps
   ·rw[if_pos cf]at hx
    rw[if_pos (show (m.up r o w g).fuel≤(m.up r o w g).steps from cf)]
    cases hx;rfl
   rw[if_neg cf]at hx
   rw[if_neg (show ¬(m.up r o w g).fuel≤(m.up r o w g).steps from cf)]
   by_cases c2:n<re.mn
   ·rw[if_pos c2]at hx ⊢;cases hx;rfl
   rw[if_neg c2]at hx ⊢
   by_cases c3:0≤re.mx∧re.mx≤n
   ·rw[if_pos c3]at hx ⊢;cases hx;rfl
   rw[if_neg c3]at hx ⊢
   by_cases c4:re.mode=1
   ·rw[if_pos c4]at hx ⊢;cases hx;rfl
   ·rw[if_neg c4]at hx ⊢;cases hx;rfl
theorem Oh (hw:o=true→w=t0) {m:aB}{p:ao}{x:Rs} (hm:m.t=t0) (hx:fY rec m p=some x):fY rec (m.up r o w g) p=some (x.1.up r o w g,x.2):=by
 unfold fY at hx ⊢
 by_cases c:m.cX p
 ·have c':(m.up r o w g).cX p:=⟨c.1,c.2.1,c.2.2.1,fun ho=>by show w=m.t;rw[hm];exact hw ho⟩
  rw[if_neg (by simpa using c)]at hx
  rw[if_neg (by simpa using c')]
  obtain⟨pa,pc,todo⟩:=p
  cases todo with
  |nil=>cases hx
  |mk kind b n at_ next =>
   simp only at hx ⊢
   rw[Ec]
   by_cases k0:kind=0
   ·rw[if_pos k0]at hx ⊢;exact ID ht h hm hx
   rw[if_neg k0]at hx ⊢
   by_cases kn:n<0∨10000000000000<n
   ·rw[if_pos kn]at hx;cases hx
   rw[if_neg kn]at hx ⊢
   by_cases k1:kind=1
   ·rw[if_pos k1]at hx ⊢
    cases hl:m.lit b with
    |none=>rw[hl]at hx;cases hx
    |some re =>
     rw[hl]at hx
     simp only at hx ⊢
     by_cases cl:1000000000<re.kids.length
     ·rw[if_pos cl]at hx;cases hx
     rw[if_neg cl]at hx ⊢
     cases hk:re.kids[n.toNat]? with
     |none=>rw[hk]at hx;cases hx
     |some kid =>
      rw[hk]at hx
      simp only at hx ⊢
      cases hx
      split <;> rfl
   rw[if_neg k1]at hx ⊢
   by_cases k2:kind=2
   ·rw[if_pos k2]at hx ⊢;exact JV hx
   rw[if_neg k2]at hx ⊢
   by_cases k3:kind=3
   ·rw[if_pos k3]at hx ⊢
    by_cases q:pa=at_
    ·rw[if_pos q]at hx ⊢;cases hx;rfl
    ·rw[if_neg q]at hx ⊢;cases hx;rfl
   rw[if_neg k3]at hx ⊢
   by_cases k4:kind=4
   ·rw[if_pos k4]at hx ⊢
    cases hl:m.lit b with
    |none=>rw[hl]at hx;cases hx
    |some re =>
     rw[hl]at hx
     simp only at hx ⊢
     split at hx
     ·cases hx
     ·rename_i hc;rw[if_neg hc];cases hx;rfl
   rw[if_neg k4]at hx ⊢
   by_cases k5:kind=5
   ·rw[if_pos k5]at hx ⊢;cases hx;rfl
   rw[if_neg k5]at hx;cases hx
 ·rw[if_pos (by simpa using c)]at hx;cases hx
end up
theorem vY {r o:Bool}{w:List Int}{g:Nat}{t0:List Int} (hw:o=true→w=t0):∀(k:Nat) (out:Bool) (m:aB) (base:Nat) (p:ao) (al:Bool) (x:Rs),m.t=t0→aQ k out m base p al=some x→aQ k out (m.up r o w g) base p al=some (x.1.up r o w g,x.2)
 |0,_,_,_,_,_,_,_,hx=>by cases hx
 |k+1,out,m,base,p,al,x,hm,hx=>by
  rw[aQ.eq_2]at hx ⊢
  by_cases c1:out=true∧m.aW=true
  ·rw[if_pos c1]at hx
   rw[if_pos (show out=true∧(m.up r o w g).aW=true from c1)]
   cases hx;rfl
  rw[if_neg c1]at hx
  rw[if_neg (show ¬(out=true∧(m.up r o w g).aW=true) from c1)]
  by_cases c2:al=true∧p.goals=true
  ·rw[if_pos c2]at hx ⊢
   cases hr:fY (fun m base p=>aQ k true m base p true) m p with
   |none=>rw[hr]at hx;cases hx
   |some y =>
    rw[hr]at hx
    have OG:∀(m:aB) (base:Nat) (p:ao) (x:Rs),aQ k true m base p true=some x→x.1.t=m.t:=fun m base p x h=>(iM _ _ _ _ _ _ _ h).t
    have Tl:=(IK (fun m base p x h=>iM k true m base p true x h) hr).t
    rw[Oh OG (fun m base p x hm hx=>vY hw k true m base p true x hm hx) hw hm hr]
    obtain⟨m1,p1,a1⟩:=y
    exact vY hw k false m1 base p1 a1 x (by simp only at Tl;rw[Tl];exact hm) hx
  rw[if_neg c2]at hx ⊢
  by_cases c3:al=true
  ·rw[if_pos c3]at hx ⊢;cases hx;rfl
  rw[if_neg c3]at hx ⊢
  by_cases c4:m.top=base
  ·rw[if_pos c4]at hx
   rw[if_pos (show (m.up r o w g).top=base from c4)]
   cases hx;rfl
  rw[if_neg c4]at hx
  rw[if_neg (show ¬(m.up r o w g).top=base from c4)]
  by_cases c5:m.top=0∨m.dY.length<m.top∨1200000000000<m.top
  ·rw[if_pos c5]at hx;cases hx
  rw[if_neg c5]at hx
  rw[if_neg (show ¬((m.up r o w g).top=0∨(m.up r o w g).dY.length<(m.up r o w g).top∨1200000000000<(m.up r o w g).top) from c5)]
  show (match m.dY[m.top-1]? with
   |none=>none
   |some none=>none
   |some (some last)=>aQ k true (m.pop.up r o w g) base last true)=_
  cases hl:m.dY[m.top-1]? with
  |none=>rw[hl]at hx;cases hx
  |some q =>
   rw[hl]at hx
   cases q with
   |none=>cases hx
   |some last=>exact vY hw k true m.pop base last true x hm hx
theorem IB {re:Re}{ai top:Int} (h:cg re ai top=true) (hk:re.kids.length≤1000000000):vB ai re=true:=by
 have hsh:=of_decide_eq_true (uX h hk)
 obtain⟨s1,s2,s3,s4⟩:=hsh
 obtain⟨h1,h2,h3,h4,h5⟩:=iU.1 h
 refine decide_eq_true ⟨fun ho=>?_,s2,s3,s4,fun ho=>?_,fun ho=>?_,fun ho=>?_⟩
 ·rcases ho with ho|ho
  ·intro hn
   have:=h1.2.2.1
   rw[hn,ho]at this
   simp [da]at this
  ·exact s1 ho
 ·rw[if_pos ho]at h4;exact h4
 ·rw[if_neg (by omega),if_pos ho]at h4;exact h4
 ·rw[if_pos ho]at h3;exact h3.2.2.1
theorem yc {ai top:Int} (re:Re) (h:re.whole ai top=true) (hs:re.size≤1000000):re.every (vB ai)=true:=by
 revert h hs
 refine Re.ind (Q:=fun re=>re.whole ai top=true→re.size≤1000000→re.every (vB ai)=true) (fun re ih h hs=>?_) re
 obtain⟨a1,a2⟩:=(Re.cS re).1 h
 have:=Re.rE re.kids
 have:=Re.size_eq re
 exact(Re.cS re).2 ⟨IB a1 (by omega),fun k hk=>ih k hk (a2 k hk) (by have:=Re.iC hk;omega)⟩
theorem F8 {p:ic}{t:List Int}{at_ ah fuel:Int} (hv:cF p t fuel=0) (a0:0≤at_) (a1:at_≤t.length) (hm:0≤ah→0<ah) {m:aB} (hp:m.p=p) :
  gS p.re t fuel p.ai.toNat 0 [] ah at_ (m.iG t at_ fuel) (df m at_) true ⟨0,false,[],[]⟩ (bK p t at_ ah fuel).1 (bK p t at_ ah fuel).2:=by
 obtain⟨h1,h2,h3,h4,h5⟩:=dA hv
 obtain⟨k1,k2,k3,k4,k5⟩:=eF h1
 obtain⟨n,e1,_⟩:=iY (ah:=ah) hv a0 a1
 have cI:(iv p).length=p.ai.toNat:=by unfold iv;rw[V7]
 have Ir:df m at_=⟨at_,iv p,.mk 0 .root 0 0 .nil⟩:=by unfold df iv;rw[hp]
 rw[Ir]
 refine Ge ⟨by omega,by omega,by omega⟩ n ah _ _ _ _ e1 0 [] (m.iG t at_ fuel) ⟨at_,iv p,.mk 0 .root 0 0 .nil⟩ ⟨by show m.p.re=p.re;rw[hp],rfl,rfl,(fun h=>by cases h),⟨rfl,rfl,by show 0≤_;omega⟩,rfl,rfl,Vr _⟩
  ⟨rfl,Vr _,h4,fun h=>by have:=hm h;simpa using this⟩ (VA _) ⟨rfl,rfl,.tree rfl .nil⟩ ?_ a0 a1 ⟨by show (iv p).length≤_;omega,fun q hq=>.inl (Wm hq)⟩ cI
 refine⟨fun _=>?_,fun h=>by omega,fun h=>by omega,fun h=>by omega,fun h=>by omega,trivial⟩
 have:((p.ai.toNat:Nat):Int)=p.ai:=by omega
 rw[this]
 exact yc _ k5 (by omega)
theorem NK {P:Re}{t:List Int}{F:Int}{nc:Nat}{i:Int}{m:aB}{q:ao}{al:Bool}{s:Int}{b:Bool}{x:aU} (h:gS P t F nc 0 [] 1 i m q al ⟨s,false,[],[]⟩ b x) :
  ∃m1 r found,Ev m 0 q al (m1,r,found)∧Po m m1∧m1.top≤m1.dY.length∧s≤x.steps∧r.ai.length≤nc ∧
   ((x.empty=false∧m1.aW=false∧m1.steps=x.steps∧x.steps≤F∧((found=true∧∃e d,x.ends=[e]∧x.ai=[d]∧r=⟨e,d,.nil⟩)∨(found=false∧x.ends=[]∧x.ai=[]))) ∨
    (x.empty=true∧m1.aW=true∧found=false)):=by
 obtain⟨R,m',h1,h2,h3,h4,h5,h6⟩:=h
 simp only[Vx]at h1 h2
 rcases h6 with ⟨k1,k2,k3,k4,kF,p',k5⟩|⟨k1,k2,k3,k4,kF,S',R0,e,d,k5,k6,k7⟩|⟨k1,k2,k3,k4,p',S',k5,k6⟩
 ·have hx:x.ends=[]:=VD (by have:=k3 (by omega);omega)
  have hR:R=[]:=by rw[h1]at hx;exact List.map_eq_nil_iff.1 hx
  subst hR
  exact⟨m',.zero,false,iK k5 rfl (jv k4.dY.2.1),h4,k4.dY.len,h5,Nat.zero_le _,.inl ⟨k2,k4.aW,k4.steps,kF,.inr ⟨rfl,by simpa using h1,by simpa using h2⟩⟩⟩
 ·have Qw:R0=[]:=by
   have:=congrArg List.length h1
   rw[k6]at this
   simp at this
   exact VD (by omega)
  subst Qw
  simp only[Vx]at k6
  subst k6
  have he:Ev m 0 q al (m',⟨e,d,.nil⟩,true):=by
   refine iK k7 rfl ?_
   have:=nH (m:=m') (base:=0) (p:=⟨e,d,.nil⟩) rfl
   rwa [k5.aW]at this
  have hr:=h3 (e,d) (by simp)
  exact⟨m',_,true,he,h4,k5.dY.len,h5,by show d.length≤nc;rw[hr.2.2.2];exact VA _,.inl ⟨k2,k5.aW,k5.steps,kF,.inl ⟨rfl,e,d,by simpa using h1,by simpa using h2,rfl⟩⟩⟩
 ·have hx:x.ends=[]:=VD (by have:=k3 (by omega);omega)
  have hR:R=[]:=by rw[h1]at hx;exact List.map_eq_nil_iff.1 hx
  subst hR
  have nn:∃m2,Ev m' 0 p' false (m2,.zero,false)∧m2.top≤m2.dY.length∧m2.aW=true∧Po m' m2:=by
   simp only[Vx]at k5
   rcases List.eq_nil_or_concat S' with rfl|⟨S2,q2,rfl⟩
   ·exact⟨m',jv k5.2.1,k5.len,k4,.refl _⟩
   ·have Cc:oo m' (S2++[q2]):=by simpa [List.concat_eq_append]using k5
    refine⟨m'.pop,?_,Cc.last.2.len,k4,uA m'⟩
    have hl:=Cc.len
    have ht:m'.top=S2.length+1:=by rw[Cc.2.1,VN];rfl
    refine⟨2,?_⟩
    rw[aQ.eq_2,if_neg (show ¬(false=true∧m'.aW=true) from fun h=>by cases h.1),if_neg (fun h=>by cases h.1),if_neg (fun h=>by cases h),if_neg (by omega),if_neg (by have:=Cc.2.2;omega),Cc.last.1]
    simp only
    rw[aQ.eq_2,if_pos ⟨rfl,k4⟩]
  obtain⟨m2,j1,j2,j3,j4⟩:=nn
  exact⟨m2,.zero,false,iK k6 rfl j1,h4.trans j4,j2,h5,Nat.zero_le _,.inr ⟨k2,j3,rfl⟩⟩
noncomputable def C3 (p:ic) (t:List Int) (at_ fuel:Int):List V :=
 if gU p t at_ 1 fuel≠0 then [i64 0,i64 0,.d (.sl []),bV false,i64 0,i64 (gU p t at_ 1 fuel)]
 else match allM p t at_ 1 fuel with
  |[]=>[i64 0,i64 0,.d (.sl []),bV false,i64 (sq p t at_ 1 fuel),i64 0]
  |(e,d)::_=>[i64 at_,i64 e,.d (bd d),bV true,i64 (sq p t at_ 1 fuel),i64 0]
theorem LL {p:ic}{t:List Int}{at_ fuel:Int} (hv:cF p t fuel=0) (a0:0≤at_) (a1:at_≤t.length) {m:aB} (hp:m.p=p) :
  ∃k m2 r found,aQ k true (m.iG t at_ fuel) 0 (df m at_) true=some (m2,r,found)∧Po (m.iG t at_ fuel) m2∧m2.top≤m2.dY.length∧r.ai.length≤1000000000∧m2.res r found=C3 p t at_ fuel∧(m2.done found).ready=(decide (gU p t at_ 1 fuel=0)&&!(allM p t at_ 1 fuel).isEmpty):=by
 obtain⟨h1,h2,h3,h4,h5⟩:=dA hv
 obtain⟨k1,k2,k3,k4,k5⟩:=eF h1
 have kx:=F8 (ah:=1) hv a0 a1 (fun _=>by omega) hp
 obtain⟨m1,r,found,j1,j2,j3,_,j4,j5⟩:=NK kx
 obtain⟨k,hk⟩:=uw (m:=m.iG t at_ fuel) rfl j1
 have hE:gU p t at_ 1 fuel=if (bK p t at_ 1 fuel).2.empty=true then 11 else 0:=by
  unfold gU;rw[if_neg (by rw[hv];simp),if_neg (by omega)]
 have aH:m1.start=at_:=j2.fr.start
 refine⟨k,m1,r,found,hk,j2,j3,by omega,?_,?_⟩
 ·unfold C3 aB.res
  rcases j5 with ⟨l1,l2,l3,lF,l4⟩|⟨l1,l2,rfl⟩
  ·have MY:gU p t at_ 1 fuel=0:=by rw[hE,if_neg (by rw[l1];simp)]
   have hN:sq p t at_ 1 fuel=(bK p t at_ 1 fuel).2.steps:=by unfold sq;rw[if_pos MY]
   have RE:allM p t at_ 1 fuel=(bK p t at_ 1 fuel).2.ends.zip (bK p t at_ 1 fuel).2.ai:=by unfold allM;rw[if_pos MY]
   rw[if_neg (by rw[l2];simp),if_neg (show ¬(gU p t at_ 1 fuel≠0) from by rw[MY];simp),RE,hN,aH,l3]
   rcases l4 with ⟨rfl,e,d,q1,q2,rfl⟩|⟨rfl,q1,q2⟩
   ·rw[if_pos rfl,q1,q2];rfl
   ·rw[if_neg (by simp),q1,q2];rfl
  ·have HE:gU p t at_ 1 fuel=11:=by rw[hE,if_pos l1]
   rw[if_pos l2,if_pos (show gU p t at_ 1 fuel≠0 from by rw[HE];simp),HE]
 ·show (found&&!m1.aW)=_
  rcases j5 with ⟨l1,l2,l3,lF,l4⟩|⟨l1,l2,rfl⟩
  ·have MY:gU p t at_ 1 fuel=0:=by rw[hE,if_neg (by rw[l1];simp)]
   have RE:allM p t at_ 1 fuel=(bK p t at_ 1 fuel).2.ends.zip (bK p t at_ 1 fuel).2.ai:=by unfold allM;rw[if_pos MY]
   rw[l2,MY,RE]
   rcases l4 with ⟨rfl,e,d,q1,q2,rfl⟩|⟨rfl,q1,q2⟩
   ·rw[q1,q2];rfl
   ·rw[q1,q2];rfl
  ·rw[l2,hE,if_pos l1];rfl
theorem QF {m m1:aB}{q:ao}{f:Bool} (hs:m.aW=false) (h:Ev m 0 .zero false (m1,q,f)) (r o:Bool) (w:List Int) (g:Nat) (hw:o=true→w=m.t):∃k,aQ k true (m.up r o w g) 0 .zero false=some (m1.up r o w g,q,f):=by
 obtain⟨k,hk⟩:=uw hs h
 exact⟨k,vY hw k true m 0 .zero false _ rfl hk⟩
theorem Gf (m:aB) (found:Bool) (h:(m.done found).ready=true∧0<m.top):(m.done found).kept=m.up (m.done found).ready true m.t (m.ew+1):=by
 unfold aB.kept
 exact if_pos h
theorem Gv (m:aB) (found r o:Bool) (w:List Int) (g:Nat):(m.up r o w g).done found=m.up (found&&!m.aW) o w g:=rfl
def vW (Y Z:Nat) (m:aB) (T:V):VL.Obj:=⟨0,true,19,[[.d (iD m.p.re.op),.d (.sl (m.p.re.set.map aM)),.d (.sl (m.p.re.kids.map Re.cells)),.d (iD m.p.re.mn),.d (iD m.p.re.mx),.d (iD m.p.re.mode),.d (iD m.p.re.n),.d (bD m.p.re.neg),i64 m.p.ai,bV m.p.bG,T,
 .so Z m.ew 0 m.own.length,.so Y m.gen 0 m.top,i64 m.aC,i64 m.start,i64 m.steps,i64 m.fuel,bV m.aW,bV m.ready]]⟩
def xB (b a:Nat) (m:aB):VL.Obj:=⟨m.gen,true,3,m.dY.map (F5 b a)⟩
def wH (m:aB):VL.Obj:=⟨m.ew,true,1,m.own.map fun x=>[.d (iD x)]⟩
theorem zi (X Y Z b a:Nat) (m:aB) (T:V):(m.aA 0 b a T).map (ct [X,Y,Z])=[vW Y Z m (bu [X,Y,Z] T),xB b a m,wH m]:=by
 unfold aB.aA vW xB wH
 simp only[VP,VO,List.cons.injEq,and_true]
 refine⟨?_,?_,?_⟩
 ·unfold ct
  simp [bu.go,bu,i64,bV]
 ·unfold ct
  simp only[List.map_map]
  congr 1
  refine Wn fun p _=>?_
  cases p <;> rfl
 ·exact rI [X,Y,Z] m.ew true 1 m.own iD
def uI (p:ic):List V:=[.d (iD p.re.op),.d (.sl (p.re.set.map aM)),.d (.sl (p.re.kids.map Re.cells)),.d (iD p.re.mn),.d (iD p.re.mx),.d (iD p.re.mode),.d (iD p.re.n),.d (bD p.re.neg),i64 p.ai,bV p.bG]
def qL:List V:=[i64 0,i64 0,i64 0,i64 0,bV false,bV false]
def Bt (p:ic) (X:Nat):VL.Obj:=⟨0,true,19,[(uI p++[.fu []])++.fu []::(.so (X+1) 0 0 0::qL)]⟩
def fresh (p:ic):aB:=⟨p,[],false,[],0,[],0,0,0,0,0,0,false,false⟩
theorem CP {p:ic} (hf:p.re.gi=true) (hv:dV p=0) {s:List VL.Obj}{K:V→List VL.Obj→Prop}
  (hk:∀b a:Nat,K (.tu [.pp s.length 0 0 0 b a,i64 0]) (s++[vW (s.length+1) (s.length+2) (fresh p) (.fu []),xB b a (fresh p),wH (fresh p)])):az prog 22 [eb p] s K:=by
 have h1:az prog 22 [eb p] s fun v s1=>v=.tu [.rf s.length 0 0 0,i64 0]∧s1=s++[Ao p]:=by
  refine xz (LO p hf hv) [] rfl (by simp) (fun k o h=>by simp at h) (by cases p;simp [eb,bu,bu.go,Re.ae,i64,bV,iD,bD]) (by cases p;simp [eb,ar,ar.go,Re.ae,i64,bV]) rfl ?_
  rintro v s' ⟨rfl,rfl⟩ _
  refine⟨?_,?_⟩
  ·simp [yL,bu,bu.go,i64]
  ·simp [bm,Ao,ct,bu,bu.go,i64,bV,iD,bD]
 refine Dk h1 ?_
 rintro v s1 ⟨rfl,rfl⟩ σ w u hI hu
 have hX:(s++[Ao p])[s.length]?=some (Ao p):=by simp
 -- K2 address
 cases hu with|@tu _ arr gH mW=>?_
 obtain⟨b,a,CI⟩:=aJ.Pt hX rfl (mW 0 _ rfl)
 -- K2 two SC
 obtain⟨σ1,e1,i1⟩:=xc hI s.length 3 hX (pre:=uI p++[.fu [],.fu []]) (post:=qL) rfl rfl
 have ga:(s++[Ao p]).set s.length { Ao p with aL:=[(uI p++[.fu [],.fu []])++V.so (s++[Ao p]).length 0 0 0::qL] }=s++[Bt p s.length]:=by
  rw[List.set_append_right _ _ (VA _),Wv,VN]
  simp [Ao,Bt]
 rw[ga]at e1 i1
 have Ug:(s++[Bt p s.length]++[(⟨0,true,3,[]⟩:VL.Obj)])[s.length]?=some (Bt p s.length):=by simp
 obtain⟨σ2,e2,i2⟩:=xc i1 s.length 1 Ug (pre:=uI p++[.fu []]) (post:=.so (s.length+1) 0 0 0::qL) rfl rfl
 have Nk:(s++[Bt p s.length]++[(⟨0,true,3,[]⟩:VL.Obj)]).set s.length { Bt p s.length with aL:=[(uI p++[.fu []])++V.so (s++[Bt p s.length]++[(⟨0,true,3,[]⟩:VL.Obj)]).length 0 0 0::(.so (s.length+1) 0 0 0::qL)] }++[⟨0,true,1,[]⟩] =
   s++[vW (s.length+1) (s.length+2) (fresh p) (.fu []),xB b a (fresh p),wH (fresh p)]:=by
  rw[VY,List.set_append_right _ _ (VA _),Wv]
  simp [vW,xB,wH,fresh,Bt,uI,qL]
 rw[Nk]at e2 i2
 refine⟨σ2,_,_,e1.trans e2,i2,?_,hk b a⟩
 have SB:=CI.bM (e1.trans e2)
 refine .tu gH fun i x hx=>?_
 match i with
 |0=>cases hx;exact SB
 |1=>cases hx;exact(mW 1 _ rfl).bM (e1.trans e2)
 |i+2=>simp at hx
theorem cV {f:FuncId}{cargs args:List V}{r r':V}{m m':aB}{T T' TX OI:V}{X Y Z b a:Nat}{s:List VL.Obj}{K:V→List VL.Obj→Prop} (h:az prog f cargs (m.aA 0 b a T) fun v s=>v=r∧s=m'.aA 0 b a T')
  (hT:ar 3 T=true) (RP:bu [X,Y,Z] T=TX) (Nn:bu [X,Y,Z] T'=OI) (CY:[X,Y,Z].Nodup) (hX:s[X]?=some (vW Y Z m TX)) (hY:s[Y]?=some (xB b a m)) (hZ:s[Z]?=some (wH m)) (ha:args=cargs.map (bu [X,Y,Z])) (rn:ar.go 3 cargs=true) (hr:bu [X,Y,Z] r=r')
  (hk:K r' (((s.set X (vW Y Z m' OI)).set Y (xB b a m')).set Z (wH m'))):az prog f args s K:=by
 refine lX [X,Y,Z] h CY (by rfl) ?_ ha rn (ff 0 b a m T 3 (VA _) hT) hr ?_
 ·have e:(m.aA 0 b a T).map (fun o=>some (ct [X,Y,Z] o))=((m.aA 0 b a T).map (ct [X,Y,Z])).map some:=by rw[List.map_map];rfl
  rw[e,zi,RP]
  simp only[VP,VO,hX,hY,hZ]
 ·rw[zi,Nn]
  exact hk
def PY:Re:=.mk 1 [(97,97)] [] 0 0 0 0 false
def RU:Re:=.mk 1 [(98,98)] [] 0 0 0 0 false
def pL:ic:=⟨.mk 3 [] [PY,.mk 2 [] [PY,RU] 0 0 0 0 false] 0 0 0 0 false,0,false⟩
def wP:Option Rs:=aQ 30 true ((fresh pL).iG [97,98] 0 9) 0 (df (fresh pL) 0) true
def IT (o:Option Rs):aB:=match o with|some x=>x.1|none=>fresh pL
def Nx (o:Option Rs):ao:=match o with|some x=>x.2.1|none=>.zero
def Kh (o:Option Rs):Bool:=match o with|some x=>x.2.2|none=>false
theorem A8 {o:Option Rs} (h:o.isSome=true):o=some (IT o,Nx o,Kh o):=by
 cases o with
 |none=>cases h
 |some x=>rfl
def MQ:aB:=((IT wP).done (Kh wP)).kept
def s9:Option Rs:=aQ 30 true MQ 0 .zero false
def NT:aB:=(IT s9).done (Kh s9)
def oh:Option Rs:=aQ 30 true NT 0 .zero false
def Lv:aB:=(IT oh).done (Kh oh)
theorem Hq:wP.isSome=true:=by rfl
theorem Fz:s9.isSome=true:=by rfl
theorem DK:oh.isSome=true:=by rfl
theorem Ju:(IT wP).res (Nx wP) (Kh wP)=[i64 0,i64 1,.d (bd []),bV true,i64 2,i64 0]:=by rfl
theorem He:(IT s9).res (Nx s9) (Kh s9)=[i64 0,i64 2,.d (bd []),bV true,i64 5,i64 0]:=by rfl
theorem El:(IT oh).res (Nx oh) (Kh oh)=[i64 0,i64 0,.d (.sl []),bV false,i64 5,i64 0]:=by rfl
theorem Ll:Lv.aC=1:=by rfl
theorem Hi:MQ.ready=true:=by rfl
theorem GV:NT.ready=true:=by rfl
theorem Qx:((IT wP).done (Kh wP)).gW=MQ.text:=by rfl
theorem K0:fQ pL.bG [97,98] 0 9=0:=by rfl
theorem JZ:dV pL=0:=by decide
end Go.Proofs.Ytllagoeijcjpiaa
