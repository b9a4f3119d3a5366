/- A part of the proof (H2 H3). -/
import Derived.Test.YtllagoeijcjpiaaBD22
import Derived.Test.YtllagoeijcjpiaaBD8
set_option linter.unusedSimpArgs false
set_option linter.unusedVariables false
set_option maxRecDepth 100000
set_option maxHeartbeats 80000000
namespace Go.Proofs.Ytllagoeijcjpiaa
open Go.VL
def cA (P:Re) (t:List Int) (F:Int) (nc:Nat) (base:Nat) (S:List ao) (ah i:Int) (m:aB) (p:ao) (al:Bool) (st:aU) (b:Bool) (st':aU) (d':Int):Prop :=
 ∃(R:List (Int×aq)) (m':aB),st'.ends=st.ends++R.map Prod.fst∧st'.ai=st.ai++R.map Prod.snd∧(∀r∈R,i≤r.1∧r.1≤t.length∧cr t r.2∧r.2.length=nc)∧(Po m m'∧m'.aC=d')∧st.steps≤st'.steps ∧
  ((b=false∧st'.empty=false∧(0≤ah→(st'.ends.length:Int)<ah)∧MS P t F m' S st'.steps∧st'.steps≤F∧∃p',kH base m p al R m' p' false) ∨
   (b=true∧st'.empty=false∧0≤ah∧(st'.ends.length:Int)=ah∧st'.steps≤F∧∃(S':List ao) (R0:List (Int×aq)) (e:Int) (d:aq),MS P t F m' (S++S') st'.steps∧R=R0++[(e,d)]∧kH base m p al R0 m' ⟨e,d,.nil⟩ true) ∨
   (b=true∧st'.empty=true∧(0≤ah→(st'.ends.length:Int)<ah)∧m'.aW=true∧∃(p':ao) (S':List ao),oo m' (S++S')∧kH base m p al R m' p' false))
section Sh
variable {P:Re}{t:List Int}{F:Int}{nc base:Nat}{S:List ao}{ah i:Int}{m:aB}{p:ao}{st st':aU}{b:Bool}{d':Int}
theorem cA.kA {m1:aB}{p1:ao}{Ms:Bool} (hg:p.goals=true) (ha:Lc m p (m1,p1,Ms)) (hp:Po m m1) (h:cA P t F nc base S ah i m1 p1 Ms st b st' d'):cA P t F nc base S ah i m p true st b st' d':=by
 obtain⟨R,m',h1,h2,h3,h4,h5,h6⟩:=h
 refine⟨R,m',h1,h2,h3,⟨hp.trans h4.1,h4.2⟩,h5,?_⟩
 rcases h6 with ⟨k1,k2,k3,k4,kF,p',k5⟩|⟨k1,k2,k3,k4,kF,S',R0,e,d,k5,k6,k7⟩|⟨k1,k2,k3,k4,p',S',k5,k6⟩
 ·exact .inl ⟨k1,k2,k3,k4,kF,p',.kA hg ha k5⟩
 ·exact .inr (.inl ⟨k1,k2,k3,k4,kF,S',R0,e,d,k5,k6,.kA hg ha k7⟩)
 ·exact .inr (.inr ⟨k1,k2,k3,k4,p',S',k5,.kA hg ha k6⟩)
theorem cA.dZ {al:Bool}{i':Int}{s0:aU} (h:cA P t F nc base S ah i' m p al s0 b st' d') (hi:i≤i') (h1:s0.ends=st.ends) (h2:s0.ai=st.ai) (h3:st.steps≤s0.steps):cA P t F nc base S ah i m p al st b st' d':=by
 obtain⟨R,m',k1,k2,k3,k4,k5,k6⟩:=h
 exact⟨R,m',by rw[k1,h1],by rw[k2,h2],fun r hr=>by have:=k3 r hr;exact⟨by omega,this.2⟩,k4,by omega,k6⟩
theorem cA.no (hM:MS P t F m S st.steps) (he:st.empty=false) (hm:0≤ah→(st.ends.length:Int)<ah) (hF:st.steps≤F):cA P t F nc base S ah i m p false st false st m.aC :=
 ⟨[],m,by simp,by simp,by simp,⟨.refl m,rfl⟩,Vr _,.inl ⟨rfl,he,hm,hM,hF,p,.refl m p false⟩⟩
theorem cA.out {s1:aU} (hS:oo m S) (hs:m.aW=true) (he:s1.empty=true) (hm:0≤ah→(st.ends.length:Int)<ah) (h1:s1.ends=st.ends) (h2:s1.ai=st.ai) (h3:st.steps≤s1.steps):cA P t F nc base S ah i m p false st true s1 m.aC :=
 ⟨[],m,by simp [h1],by simp [h2],by simp,⟨.refl m,rfl⟩,h3,.inr (.inr ⟨rfl,he,by rw[h1];exact hm,hs,p,[],by simpa using hS,.refl m p false⟩)⟩
theorem cA.grow {q:ao}{al:Bool} (h:cA P t F nc base (S++[q]) ah i m p al st true st' d'):cA P t F nc base S ah i m p al st true st' d':=by
 obtain⟨R,m',h1,h2,h3,h4,h5,h6⟩:=h
 rcases h6 with ⟨k1,_⟩|⟨k1,k2,k3,k4,kF,S',R0,e,d,k5,k6,k7⟩|⟨k1,k2,k3,k4,p',S',k5,k6⟩
 ·cases k1
 ·exact⟨R,m',h1,h2,h3,h4,h5,.inr (.inl ⟨rfl,k2,k3,k4,kF,q::S',R0,e,d,by simpa using k5,k6,k7⟩)⟩
 ·exact⟨R,m',h1,h2,h3,h4,h5,.inr (.inr ⟨rfl,k2,k3,k4,p',q::S',by simpa using k5,k6⟩)⟩
theorem cA.then {q:ao}{al:Bool}{s2:aU}{d1:Int} (hb:base≤S.length) (h:cA P t F nc base (S++[q]) ah i m p al st false s2 d1)
  (hf:∀m2,MS P t F m2 (S++[q]) s2.steps→s2.empty=false→s2.steps≤F→(0≤ah→(s2.ends.length:Int)<ah)→st.steps≤s2.steps→m2.aC=d1→cA P t F nc base S ah i m2.pop q true s2 b st' d'):cA P t F nc base S ah i m p al st b st' d':=by
 obtain⟨R,m',h1,h2,h3,h4,h5,h6⟩:=h
 rcases h6 with ⟨k1,k2,k3,k4,kF,p',k5⟩|⟨k1,_⟩|⟨k1,_⟩
 ·obtain⟨R',m2,j1,j2,j3,j4,j5,j6⟩:=hf m' k4 k2 kF k3 h5 h4.2
  have cY:∀{Qq QK GN IZ},kH base m'.pop q true Qq QK GN IZ→kH base m p al (R++Qq) QK GN IZ:=fun hr=>k5.trans (.pop k4.dY hb k4.aW hr)
  refine⟨R++R',m2,by rw[j1,h1];simp,by rw[j2,h2];simp,fun r hr=>?_,⟨h4.1.trans ((uA m').trans j4.1),j4.2⟩,by omega,?_⟩
  ·rcases List.mem_append.1 hr with hr|hr
   ·exact h3 r hr
   ·exact j3 r hr
  ·rcases j6 with ⟨l1,l2,l3,l4,lF,GN,l5⟩|⟨l1,l2,l3,l4,lF,S',R0,e,d,l5,l6,l7⟩|⟨l1,l2,l3,l4,GN,S',l5,l6⟩
   ·exact .inl ⟨l1,l2,l3,l4,lF,GN,cY l5⟩
   ·exact .inr (.inl ⟨l1,l2,l3,l4,lF,S',R++R0,e,d,l5,by rw[l6,VY],cY l7⟩)
   ·exact .inr (.inr ⟨l1,l2,l3,l4,GN,S',l5,cY l6⟩)
 ·cases k1
 ·cases k1
end Sh
def EZ (P:Re) (t:List Int) (F:Int) (nc:Nat) (S:List ao) (i:Int) (m:aB) (q:ao) (s:Int) (x:aU) (d':Int):Prop :=
 ∃m1 r found,(∃k,bY (fun m base p=>aQ k true m base p true) m q=some (m1,r,found))∧Po m m1∧m1.aC=d'∧oo m1 S∧s≤x.steps ∧
   ((x.empty=false∧MS P t F m1 S x.steps∧x.steps≤F∧((found=true∧∃e d,x.ends=[e]∧x.ai=[d]∧r=⟨e,d,.nil⟩∧i≤e∧e≤t.length∧cr t d∧d.length=nc)∨(found=false∧x.ends=[]∧x.ai=[]))) ∨
    (x.empty=true∧m1.aW=true∧found=false))
theorem Fs {P:Re}{t:List Int}{F:Int}{nc:Nat}{S:List ao}{i:Int}{m:aB}{q:ao}{s:Int}{b:Bool}{x:aU}{d':Int} (hM:MS P t F m S s) (h:cA P t F nc S.length S 1 i m q true ⟨s,false,[],[]⟩ b x d') :
  EZ P t F nc S i m q s x d':=by
 obtain⟨R,m',h1,h2,h3,⟨h4,hd⟩,h5,h6⟩:=h
 simp only[Vx]at h1 h2
 have EP:m.top=S.length:=hM.dY.2.1
 have fin:∀{m2 r found S'},Ev m S.length q true (m2,r,found)→oo m2 (S++S')→∃k,bY (fun m base p=>aQ k true m base p true) m q=some (m2.clear S.length,r,found):=by
  intro m2 r found S' he Pv
  obtain⟨k,hk⟩:=uw hM.aW he
  refine⟨k,?_⟩
  simp only[bY]
  rw[EP,hk]
  simp only
  rw[if_neg]
  have:=Pv.2.1
  have:=Pv.len
  rw[VN]at *
  omega
 have Nh:∀{m2:aB},Po m m2→Po m (m2.clear S.length):=fun h=>⟨h.fr.trans (aB.lD _ _),h.steps,h.J7,h.IE,h.cL⟩
 rcases h6 with ⟨k1,k2,k3,k4,kF,p',k5⟩|⟨k1,k2,k3,k4,kF,S',R0,e,d,k5,k6,k7⟩|⟨k1,k2,k3,k4,p',S',k5,k6⟩
 ·have hx:x.ends=[]:=VD (by have:=k3 (by omega);omega)
  have hR:R=[]:=by rw[h1]at hx;exact List.map_eq_nil_iff.1 hx
  subst hR
  have he:Ev m S.length q true (m',.zero,false):=iK k5 rfl (jv k4.dY.2.1)
  refine⟨_,_,_,fin (S':=[]) he (by simpa using k4.dY),Nh h4,hd,(show oo m' (S++[]) by simpa using k4.dY).clear,h5,.inl ⟨k2,?_,kF,.inr ⟨rfl,by simpa using h1,by simpa using h2⟩⟩⟩
  exact k4.fr (aB.lD _ _) (show oo m' (S++[]) by simpa using k4.dY).clear k4.steps k4.aW k4.room
 ·have Qw:R0=[]:=by
   have:=congrArg List.length h1
   rw[k6]at this
   simp at this
   exact VD (by omega)
  subst Qw
  simp only[Vx]at k6
  subst k6
  have he:Ev m S.length q true (m',⟨e,d,.nil⟩,true):=by
   refine iK k7 rfl ?_
   have:=nH (m:=m') (base:=S.length) (p:=⟨e,d,.nil⟩) rfl
   rwa [k5.aW]at this
  have hr:=h3 (e,d) (by simp)
  refine⟨_,_,_,fin he k5.dY,Nh h4,hd,k5.dY.clear,h5,.inl ⟨k2,?_,kF,.inl ⟨rfl,e,d,by simpa using h1,by simpa using h2,rfl,hr.1,hr.2.1,hr.2.2.1,hr.2.2.2⟩⟩⟩
  exact k5.fr (aB.lD _ _) k5.dY.clear k5.steps k5.aW (by have:=k5.room;rw[VN]at this;omega)
 ·have hx:x.ends=[]:=VD (by have:=k3 (by omega);omega)
  have hR:R=[]:=by rw[h1]at hx;exact List.map_eq_nil_iff.1 hx
  subst hR
  have nn:∃m2 S2,Ev m' S.length p' false (m2,.zero,false)∧oo m2 (S++S2)∧m2.aW=true∧Po m' m2∧m2.aC=m'.aC:=by
   rcases List.eq_nil_or_concat S' with rfl|⟨S2,q2,rfl⟩
   ·refine⟨m',[],jv (by simpa using k5.2.1),by simpa using k5,k4,.refl _,rfl⟩
   ·have Cc:oo m' ((S++S2)++[q2]):=by simpa [VY]using k5
    refine⟨m'.pop,S2,?_,Cc.last.2,k4,uA m',rfl⟩
    have hl:=Cc.len
    have ht:m'.top=(S++S2).length+1:=by rw[Cc.2.1,VN];rfl
    refine⟨2,?_⟩
    rw[aQ.eq_2,if_neg (show ¬(false=true∧m'.aW=true) from fun h=>by cases h.1),if_neg (fun h=>by cases h.1),if_neg (fun h=>by cases h),if_neg (by rw[ht,VN];omega),if_neg (by have:=Cc.2.2;omega),Cc.last.1]
    simp only
    rw[aQ.eq_2,if_pos ⟨rfl,k4⟩]
  obtain⟨m2,S2,j1,j2,j3,j4,j5⟩:=nn
  exact⟨_,_,_,fin (iK k6 rfl j1) j2,Nh (h4.trans j4),j5.trans hd,j2.clear,h5,.inr ⟨k2,j3,rfl⟩⟩
structure jT (t:List Int) (F:Int) (nc:Nat) (base:Nat) (S:List ao) (ah i:Int) (c:aq) (st:aU):Prop where
 empty:st.empty=false
 s0:0≤st.steps
 s1:st.steps≤F
 ah:0≤ah→(st.ends.length:Int)<ah
 base:base≤S.length
 i0:0≤i
 i1:i≤t.length
 ai:cr t c
 cl:c.length=nc
section pre
variable {t:List Int}{F:Int}{nc base:Nat}{S:List ao}{ah i:Int}{c:aq}{st:aU}
theorem jc {st:aU} (he:(st.step F).empty=false):st.empty=false∧st.steps<F:=by
 simp only[aU.step,Bool.or_eq_false_iff,decide_eq_false_iff_not]at he
 exact⟨he.1,by omega⟩
theorem zd {st:aU} (h:st.empty=false) (he:(st.step F).empty=true):F≤st.steps:=by
 simp only[aU.step,h,VM,decide_eq_true_eq]at he
 omega
theorem jT.step (h:jT t F nc base S ah i c st) (he:(st.step F).empty=false):jT t F nc base S ah i c (st.step F):=by
 have:=jc he
 have:=h.s0
 exact⟨he,by show 0≤st.steps+1;omega,by show st.steps+1≤F;omega,h.ah,h.base,h.i0,h.i1,h.ai,h.cl⟩
theorem jT.sub (h:jT t F nc base S ah i c st) {q:Int} (h0:0≤q) (h1:q≤t.length):jT t F nc S.length S 1 q c st.sub :=
 ⟨rfl,h.s0,h.s1,fun _=>by show ((0:Nat):Int)<1;omega,VA _,h0,h1,h.ai,h.cl⟩
theorem jT.ib {x:aU} (h:jT t F nc base S ah i c st) (hx:x.empty=false) (hs:st.steps≤x.steps) (hF:x.steps≤F) {e:Int}{d:aq} (h0:0≤e) (h1:e≤t.length) (hd:cr t d) (Bm:d.length=nc):jT t F nc base S ah e d (st.ib x) :=
 ⟨hx,by show 0≤x.steps;have:=h.s0;omega,hF,h.ah,h.base,h0,h1,hd,Bm⟩
theorem jT.on {S':List ao}{s2:aU} (h:jT t F nc base S ah i c st) (he:s2.empty=false) (hs:st.steps≤s2.steps) (hF:s2.steps≤F) (hm:0≤ah→(s2.ends.length:Int)<ah) (hb:base≤S'.length):jT t F nc base S' ah i c s2 :=
 ⟨he,by have:=h.s0;omega,hF,hm,hb,h.i0,h.i1,h.ai,h.cl⟩
theorem jT.at {e:Int}{d:aq} (h:jT t F nc base S ah i c st) (h0:0≤e) (h1:e≤t.length) (hd:cr t d) (Bm:d.length=nc):jT t F nc base S ah e d st :=
 ⟨h.empty,h.s0,h.s1,h.ah,h.base,h0,h1,hd,Bm⟩
end pre
def wg (rec:Rec) (m:aB) (r:aG) (re:Re) (p:ao):Option Rs :=
 if re.op=1 then some (m,iW m.t re p)
 else if re.op=2 then some (m,{ p with todo:=eo re.kids p.todo },true)
 else if re.op=3 then some (m,iA p 1 r 0 0,true)
 else if re.op=5 then match re.kids with
  |[]=>none
  |kid::_=>some (m,iA (iA p 4 r 0 p.at_) 0 (.el kid) 0 0,true)
 else if re.op=6 then match tb m.t re p with
  |none=>none
  |some x=>some (m,x)
 else if re.op=7∨re.op=8 then match re.kids with
  |[]=>none
  |kid::_=>eX rec m re kid p
 else if re.op=9 then match re.kids with
  |[]=>none
  |kid::_=>fp rec m p (.mk 0 (.el kid) 0 0 .nil)
 else if re.op=10 then match re.kids with
  |yes::no::_=>if re.n<1∨(p.ai.length:Int)<re.n then none else some (m,iA p 0 (.el (if 0≤(p.ai.getD (re.n-1).toNat (-1,-1)).1 then yes else no)) 0 0,true)
  |_=>none
 else if re.op=11 then (if re.n<0∨5<re.n then none else some (m,p,bN re.n m.t p.at_))
 else some (m,p,true)
theorem wF {rec:Rec}{m:aB}{r:aG}{re:Re}{p:ao}{x:ao×Bool} (h:re.op=6) (hx:tb m.t re p=some x):wg rec m r re p=some (m,x):=by
 simp [wg,h,hx]
theorem nw {rec:Rec}{m:aB}{r:aG}{re kid:Re}{l:List Re}{p:ao} (h:re.op=7∨re.op=8) (hk:re.kids=kid::l):wg rec m r re p=eX rec m re kid p:=by
 rcases h with h|h <;> simp [wg,h,hk]
theorem xu {rec:Rec}{m:aB}{r:aG}{re kid:Re}{l:List Re}{p:ao} (h:re.op=9) (hk:re.kids=kid::l):wg rec m r re p=fp rec m p (.mk 0 (.el kid) 0 0 .nil):=by
 simp [wg,h,hk]
theorem Jy {rec:Rec}{m:aB}{r:aG}{re yes no:Re}{l:List Re}{p:ao} (h:re.op=10) (hk:re.kids=yes::no::l) (h1:1≤re.n) (h2:re.n≤p.ai.length) :
  wg rec m r re p=some (m,iA p 0 (.el (if 0≤(p.ai.getD (re.n-1).toNat (-1,-1)).1 then yes else no)) 0 0,true):=by
 have hn:¬(re.n<1∨(p.ai.length:Int)<re.n):=by omega
 simp [wg,h,hk,hn]
theorem x5 {rec:Rec}{m:aB}{r:aG}{re:Re}{p:ao} (h:re.op=11) (h1:0≤re.n) (h2:re.n≤5):wg rec m r re p=some (m,p,bN re.n m.t p.at_):=by
 have hn:¬(re.n<0∨5<re.n):=by omega
 simp [wg,h,hn]
theorem Ix {rec:Rec}{m:aB}{r:aG}{re:Re}{p:ao} (hl:m.lit r=some re) (h1:re.set.length≤1000000000) (h2:re.kids.length≤1000000000) (o4:re.op≠4) (hf:m.steps<m.fuel):bj rec m r p=wg rec m.step r re p:=by
 unfold bj wg
 rw[hl]
 simp only
 rw[if_neg (by omega),if_neg o4,if_neg (by omega)]
 rfl
theorem Hn {rec:Rec}{m:aB}{r:aG}{re:Re}{p:ao} (hl:m.lit r=some re) (h1:re.set.length≤1000000000) (h2:re.kids.length≤1000000000) (o4:re.op≠4) (hf:m.fuel≤m.steps):bj rec m r p=some (m.step,.zero,false):=by
 unfold bj
 rw[hl]
 simp only
 rw[if_neg (by omega),if_neg o4,if_pos hf]
theorem sd {rec:Rec}{m:aB}{r:aG}{re:Re}{p:ao} (hl:m.lit r=some re) (h1:re.set.length≤1000000000) (h2:re.kids.length≤1000000000) (o4:re.op=4) (hm:re.mode=2):bj rec m r p=fp rec m p (.mk 2 r 0 0 .nil):=by
 unfold bj
 rw[hl]
 simp only
 rw[if_neg (by omega),if_pos o4,if_pos hm]
theorem HG {rec:Rec}{m:aB}{r:aG}{re:Re}{p:ao} (hl:m.lit r=some re) (h1:re.set.length≤1000000000) (h2:re.kids.length≤1000000000) (o4:re.op=4) (hm:re.mode≠2):bj rec m r p=some (m,iA p 2 r 0 0,true):=by
 unfold bj
 rw[hl]
 simp only
 rw[if_neg (by omega),if_pos o4,if_neg hm]
theorem zr (m:aB):m.step.aC=m.aC:=by
 unfold aB.step
 split <;> rfl
theorem nA {m:aB}{r:aG}{re rj kid:Re}{l:List Re}{k i:Int}{c:aq}{g:aI} (hl:m.lit r=some rj) (ht:RT rj re) (hm:re.mode≠2) (hk:re.kids=kid::l) (hf:m.steps<m.fuel) :
  fG m r k ⟨i,c,g⟩=(if k<re.mn then some (m.step,⟨i,c,.mk 0 (.el kid) 0 0 (.mk 2 r (k+1) 0 g)⟩,true)
   else if 0≤re.mx∧re.mx≤k then some (m.step,⟨i,c,g⟩,true)
   else if re.mode=1 then some (m.step.push ⟨i,c,.mk 0 (.el kid) 0 0 (.mk 3 r (k+1) i g)⟩,⟨i,c,g⟩,true) else some (m.step.push ⟨i,c,g⟩,⟨i,c,.mk 0 (.el kid) 0 0 (.mk 3 r (k+1) i g)⟩,true)):=by
 have e0:rj.kids=re.kids∧rj.mn=re.mn∧rj.mx=re.mx∧(rj.mode=1 ↔ re.mode=1):=by
  rcases ht with ⟨rfl,_⟩|⟨h2,rfl⟩
  ·exact⟨rfl,rfl,rfl,Iff.rfl⟩
  ·refine⟨rfl,rfl,rfl,?_⟩
   rw[h2];simp [Re.bP,Re.mode]
 obtain⟨e1,e2,e3,e4⟩:=e0
 unfold fG
 rw[hl]
 simp only
 rw[e1,hk,e2,e3]
 simp only[e4]
 rw[if_neg (by omega)]
theorem Ik {m:aB}{r:aG}{re rj kid:Re}{l:List Re}{k i:Int}{c:aq}{g:aI} (hl:m.lit r=some rj) (ht:RT rj re) (hk:re.kids=kid::l) (hf:m.fuel≤m.steps):fG m r k ⟨i,c,g⟩=some (m.step,.zero,false):=by
 have e1:rj.kids=re.kids:=by
  rcases ht with ⟨rfl,_⟩|⟨h2,rfl⟩ <;> rfl
 unfold fG
 rw[hl]
 simp only
 rw[e1,hk]
 simp only
 rw[if_pos hf]
theorem nf {f:Int→aB→Option Rs}{neg:Bool}{p:ao}{last:Int}{m:aB}:dz f neg p last 0 m=some (m,p,neg&&!m.aW):=by
 rfl
theorem Eo {f:Int→aB→Option Rs}{neg:Bool}{p:ao}{last:Int}{m:aB} (hs:m.aW=true):∀j,dz f neg p last j m=some (m,p,neg&&!m.aW)
 |0=>rfl
 |j+1=>by simp only[dz];rw[if_pos hs]
theorem tF {f:Int→aB→Option Rs}{neg:Bool}{p r:ao}{last:Int}{m m1:aB}{j:Nat} (hs:m.aW=false) (h:f (last+j) m=some (m1,r,true)):dz f neg p last (j+1) m=some (if neg=true then (m1,.zero,false) else (m1,{ p with ai:=r.ai },true)):=by
 simp only[dz]
 rw[if_neg (by rw[hs];exact V1),h]
 simp only[if_true]
 split <;> rfl
theorem nv {f:Int→aB→Option Rs}{neg:Bool}{p r:ao}{last:Int}{m m1:aB}{j:Nat} (hs:m.aW=false) (h:f (last+j) m=some (m1,r,false)):dz f neg p last (j+1) m=dz f neg p last j m1:=by
 simp only[dz]
 rw[if_neg (by rw[hs];exact V1),h]
 simp only[Vw,if_false]
section RC
variable {P:Re}{t:List Int}{F:Int}{nc:Nat}
theorem jU {i:Int}{c:aq}{base:Nat}{S:List ao}{ah:Int}{st x st':aU}{b:Bool}{g part:aI}{m:aB}{d1 d':Int} (hP:jT t F nc base S ah i c st)
  (hf:EZ P t F nc S i m ⟨i,c,part⟩ st.steps x d1) (ER:x.empty=true→b=true∧st'=st.ib x∧d'=d1) (oP:x.empty=false→x.ends=[]→b=false∧st'=st.ib x∧d'=d1)
  (hyes:∀e d,x.empty=false→x.ends=[e]→x.ai=[d]→i≤e→e≤t.length→cr t d→d.length=nc→x.steps≤F→∀m1,MS P t F m1 S x.steps→m1.aC=d1→cA P t F nc base S ah e m1 ⟨e,d,g⟩ true (st.ib x) b st' d') :
  ∃m1 r f,(∃k,fp (fun m base p=>aQ k true m base p true) m ⟨i,c,g⟩ part=some (m1,r,f))∧Po m m1∧cA P t F nc base S ah i m1 r f st b st' d':=by
 obtain⟨m1,r,f,⟨k,hk⟩,k2,hd,k3,hs,k4⟩:=hf
 refine⟨m1,{ r with todo:=g },f,⟨k,by unfold fp;rw[hk]⟩,k2,cA.dZ (s0:=st.ib x) (i':=i) ?_ (Vr _) rfl rfl hs⟩
 rcases k4 with ⟨j1,j2,j3,⟨rfl,e,d,l1,l2,rfl,l3,l4,l5,l6⟩|⟨rfl,l1,l2⟩⟩|⟨j1,j2,rfl⟩
 ·exact(hyes e d j1 l1 l2 l3 l4 l5 l6 j3 m1 j2 hd).dZ l3 rfl rfl (Vr _)
 ·obtain⟨rfl,rfl,rfl⟩:=oP j1 l1
  rw[← hd]
  exact cA.no j2 j1 hP.ah j3
 ·obtain⟨rfl,rfl,rfl⟩:=ER j1
  rw[← hd]
  exact cA.out k3 j2 j1 hP.ah rfl rfl (Vr _)
end RC
end Go.Proofs.Ytllagoeijcjpiaa
