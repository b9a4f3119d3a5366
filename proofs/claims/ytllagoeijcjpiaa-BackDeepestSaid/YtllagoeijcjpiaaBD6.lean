/- A part of the proof (G15 G16 G17). -/
import Derived.Test.YtllagoeijcjpiaaBD5
set_option linter.unusedSimpArgs false
set_option linter.unusedVariables false
set_option maxRecDepth 100000
set_option maxHeartbeats 80000000
namespace Go.Proofs.Ytllagoeijcjpiaa
open Go.VL Go.Proofs.Try
theorem eg.same {t:List Int}{F sl i e d:Int}{nc:Nat}{st s1 st':aU}{b:Bool} (h:eg t F sl e nc s1 b st') (he:s1.ends=st.ends) (hc:s1.ai=st.ai) (hs:st.steps+d≤s1.steps) (hd:0≤d) (hi:i≤e):eg t F (sl-d) i nc st b st':=by
 obtain⟨new,pM,h1,h2,h3,h4,h5,h6⟩:=h.more
 exact⟨by have:=h.s0;omega,h.s1,h.empty,h.full,new,pM,by rw[h1,he],by rw[h2,hc],h3,by omega,fun x hx=>⟨by have:=h5 x hx;omega,(h5 x hx).2⟩,h6⟩
theorem jS.next {t:List Int}{F i:Int}{c:aq}{sl TF sl':Int}{st s1:aU} (H:jS t F i c sl st) (h:eg t F TF i c.length st false s1) (hs:TF+sl'≤sl):jS t F i c sl' s1:=by
 have he:s1.empty=false:=by
  cases hx:s1.empty with
  |false=>rfl
  |true=>have:=h.full hx;cases this
 have hd:=h.empty
 rw[he]at hd
 have hle:s1.steps≤F:=by
  have:=of_decide_eq_false hd.symm
  omega
 obtain⟨new,pM,h1,h2,h3,h4,h5,h6⟩:=h.more
 refine⟨H.i0,H.i1,H.ai,he,by have:=H.s0;have:=h.s0;omega,hle,?_,?_⟩
 ·have:=H.ends
  rw[h1,VN,Wt];omega
 ·rw[h1,h2,VN,VN,h3,H.same]
theorem Ends.via {t:List Int}{F ah:Int}{task task':Task}{st:aU} (heq:∀rec,b8 t F rec ah task st=rec ah task' st) (h:Ends t F ah task' st) (h1:task'.gl≤task.gl) (h2:task.pos≤task'.pos) (h3:task'.ai.length=task.ai.length)
  (h4:task.xF→task'.xF):Ends t F ah task st:=by
 obtain⟨n,b,st',k1,k2,k3⟩:=h
 exact⟨n+1,b,st',by show b8 t F (eh t F n) ah task st=_;rw[heq];exact k1,(h3 ▸ k2.dZ h1 h2),fun hs=>k3 (h4 hs)⟩
theorem Dz {t:List Int}{F ah:Int}{i:Int}{c:aq}{next:Goal}{s0:Int}:∀(l:List Re) (st:aU),(∀k∈l,∀s:aU,s0≤s.steps→jS t F i c 0 s→Ends t F ah (.run (.mk 0 k 0 0 next) i c) s)→s0≤st.steps→jS t F i c 0 st →
  ∃n b s',oM (fun k st=>eh t F n ah (.run (.mk 0 k 0 0 next) i c) st) l st=some (b,s')∧eg t F 0 i c.length st b s'
 |[],st,_,_,H=>⟨0,false,st,rfl,.no H.s1 H.empty (Vr _)⟩
 |k::l,st,h,hs,H=>by
  obtain⟨n1,b1,s1,k1,k2,_⟩:=h k (by simp) st hs H
  have k2:eg t F 0 i c.length st b1 s1:=k2
  cases b1 with
  |true =>
   refine⟨n1,true,s1,?_,k2⟩
   simp only[oM,k1,rm]
  |false =>
   have H1:=H.next k2 (sl':=0) (by omega)
   obtain⟨n2,b2,s2,j1,j2⟩:=Dz l s1 (fun k hk=>h k (by simp [hk])) (by have:=k2.s0;omega) H1
   refine⟨max n1 n2,b2,s2,?_,k2.trans j2⟩
   simp only[oM,ek (Ws n1 n2) k1,rm]
   exact ur (fun k st r hr=>ek (Wp n1 n2) hr) l s1 _ j1
theorem vg {t:List Int}{F:Int}{g:Goal}{c:aq}{s0:Int} (th:ez g=0) (hc:cr t c):∀(m:Nat) (st:aU),(m:Int)≤t.length+1→(∀(k:Nat) (s:aU),k<m→s0≤s.steps→jS t F k c 0 s→Ends t F 1 (.run g k c) ⟨s.steps,false,[],[]⟩)→s0≤st.steps →
  0≤st.steps→st.steps≤F+1→st.empty=decide (F<st.steps)→(st.ends.length:Int)≤st.steps→st.ai.length=st.ends.length →
  ∃n r s',dK (fun k st=>cT (eh t F n) g k c st) m st=some (r,s')∧st.steps≤s'.steps∧s'.steps≤F+1∧s'.empty=decide (F<s'.steps)∧s'.ends=st.ends∧s'.ai=st.ai∧(∀d,r=some d→cr t d∧d.length=c.length)
 |0,st,_,_,_,h0,h1,he,hl,hs=>⟨0,none,st,rfl,Vr _,h1,he,rfl,rfl,fun d h=>(by cases h)⟩
 |m+1,st,hm,h,eB,h0,h1,he,hl,hs=>by
  by_cases hx:st.empty=true
  ·exact⟨0,none,st,by simp only[dK,if_pos hx],Vr _,h1,he,rfl,rfl,fun d h=>(by cases h)⟩
  have hx:st.empty=false:=by simpa using hx
  have hle:st.steps≤F:=by
   rw[hx]at he
   have:=of_decide_eq_false he.symm
   omega
  have H:jS t F (m:Nat) c 0 st:=⟨by omega,by omega,hc,hx,h0,hle,by omega,hs⟩
  obtain⟨n1,r1,s1,k1,k2,k3,k4,k5,k6,k7,k8,_⟩:=nO H (h m st (by omega) eB H) th
  cases r1 with
  |some p =>
   obtain⟨e,d⟩:=p
   refine⟨n1,some d,s1,?_,k2,k3,k4,k5,k6,fun d' h=>?_⟩
   ·simp only[dK,hx,Vw,if_false,k1]
   ·cases h
    have:=k8 e d rfl
    exact⟨this.2.2.1,this.2.2.2⟩
  |none =>
   obtain⟨n2,r2,s2,j1,j2,j3,j4,j5,j6,j7⟩:=vg th hc m s1 (by omega) (fun k s hk=>h k s (by omega)) (by omega) (by omega) k3 k4 (by rw[k5];omega) (by rw[k5,k6];exact hs)
   refine⟨max n1 n2,r2,s2,?_,by omega,j3,j4,by rw[j5,k5],by rw[j6,k6],j7⟩
   simp only[dK,hx,Vw,if_false]
   rw[gk (fun m task st r hr=>ek (Ws n1 n2) hr) k1]
   exact nN (fun k st r hr=>gk (fun m task st r hr=>ek (Wp n1 n2) hr) hr) m s1 _ j1
theorem cr.with {t:List Int}{c:aq}{n bO to:Int} (h:cr t c) (h0:0≤bO) (h1:bO≤to) (h2:to≤t.length):cr t (jf c n bO to)∧(jf c n bO to).length=c.length:=by
 unfold jf
 split
 ·refine⟨⟨by simpa using h.1,fun p hp=>?_⟩,by simp⟩
  rcases List.mem_or_eq_of_mem_set hp with hp|rfl
  ·exact h.2 p hp
  ·exact .inr ⟨h0,h1,h2⟩
 ·exact⟨h,rfl⟩
theorem wQ {t:List Int}{c:aq} (h:cr t c) (n:Int):Ke t (bo c n):=by
 unfold bo
 split
 ·exact .inl rfl
 ·rename_i hn
  have aT:(n-1).toNat<c.length:=by omega
  rw[List.getD,Vu aT]
  exact h.2 _ (List.getElem_mem aT)
theorem yV {re:Re} (h:re.every ix=true) (m:Int):(re.bP m).every ix=true:=by
 rw[Re.cS]at h ⊢
 exact⟨h.1,h.2⟩
theorem F7 {t:List Int}{i s:Int}{next:Goal} (hn:iw t i s next):∀l:List Re,(∀k∈l,k.every ix=true)→iw t i s (gu l next)
 |[],_=>hn
 |k::l,h=>⟨by omega,h k (by simp),fun h=>by omega,fun h=>by omega,fun h=>by omega,fun h=>by omega,F7 hn l (fun x hx=>h x (by simp [hx]))⟩
theorem jS.le {t:List Int}{F i:Int}{c:aq}{sl sl':Int}{s:aU} (H:jS t F i c sl s) (h:sl'≤sl):jS t F i c sl' s :=
 ⟨H.i0,H.i1,H.ai,H.empty,H.s0,H.s1,by have:=H.ends;omega,H.same⟩
theorem jS.at {t:List Int}{F i e:Int}{c d:aq}{sl sl':Int}{s s2:aU} (H:jS t F i c sl s) (kB:i≤e) (KH:e≤t.length) (hd:cr t d) (h1:s2.ends=s.ends) (h2:s2.ai=s.ai) (h3:s.steps≤s2.steps) (h4:s2.steps≤F) (h5:s2.empty=false) (h6:sl'≤sl+(s2.steps-s.steps)):jS t F e d sl' s2 :=
 ⟨by have:=H.i0;omega,KH,hd,h5,by have:=H.s0;omega,h4,by have:=H.ends;rw[h1];omega,by rw[h1,h2];exact H.same⟩
theorem uF {F:Int}{s:aU} (h:s.empty=decide (F<s.steps)) (he:s.empty=false):s.steps≤F:=by
 rw[he]at h
 have:=of_decide_eq_false h.symm
 omega
theorem Hd {t:List Int}{F:Int}{i:Int}{c:aq}{s1:aU} (IH:∀ah task s,s1.steps≤s.steps→task.ok t s.steps→jS t F task.pos task.ai task.gl s→Ends t F ah task s) {ah:Int}{re:Re}{next:Goal}
  (hsh:re.every ix=true) (hn:iw t i s1.steps next) (H:jS t F i c 1 s1) :
  ∃n b s',eQ t (eh t F n) ah re next i c s1=some (b,s')∧eg t F 1 i c.length s1 b s':=by
 obtain⟨h1,h2⟩:=(Re.cS re).1 hsh
 obtain⟨QA,Uv,_,_⟩:=of_decide_eq_true h1
 have hi0:=H.i0
 have eK:=H.i1
 -- run UQ on at a goal
 have go:∀(g:Goal) (e:Int) (d:aq) (s2:aU),i≤e→e≤t.length→cr t d→d.length=c.length→s2.ends=s1.ends→s2.ai=s1.ai→s1.steps≤s2.steps→s2.steps≤F→s2.empty=false→iw t e s2.steps g →
   ∃n b s',eh t F n ah (.run g e d) s2=some (b,s')∧eg t F 1 i c.length s1 b s':=by
  intro g e d s2 a1 a2 a3 a4 a5 a6 a7 a8 a9 hg
  have hs:=gv g
  obtain⟨n,b,s',k1,k2,_⟩:=IH ah (.run g e d) s2 a7 hg (H.at (sl':=ez g) a1 a2 a3 a5 a6 a7 a8 a9 (by omega))
  have k2:eg t F (ez g) e d.length s2 b s':=k2
  rw[a4]at k2
  have k3:=(k2.dZ (sl':=1) hs.2 (Vr _)).same (st:=s1) (d:=0) (i:=i) a5 a6 (by omega) (Vr _) a1
  rw[Int.sub_zero]at k3
  exact⟨n,b,s',k1,k3⟩
 have here:∀g,iw t i s1.steps g→∃n b s',eh t F n ah (.run g i c) s1=some (b,s')∧eg t F 1 i c.length s1 b s':=fun g hg=>go g i c s1 (Vr _) eK H.ai rfl rfl rfl (Vr _) H.s1 H.empty hg
 have no:eg t F 1 i c.length s1 false s1:=.no H.s1 H.empty (by omega)
 -- K2 first result of a kid
 have fst:∀(kid:Re) (tail:Goal) (k:Int) (s:aU),kid.every ix=true→iw t k s.steps tail→s1.steps≤s.steps→jS t F k c 0 s→Ends t F 1 (.run (.mk 0 kid 0 0 tail) k c) ⟨s.steps,false,[],[]⟩:=by
  intro kid tail k s b1 b2 b3 Hs
  refine IH 1 _ _ b3 ⟨by omega,b1,fun h=>by omega,fun h=>by omega,fun h=>by omega,fun h=>by omega,b2⟩ ⟨Hs.i0,Hs.i1,Hs.ai,rfl,Hs.s0,Hs.s1,?_,rfl⟩
  have:=Hs.s0
  simp [Task.gl,ez];omega
 unfold eQ
 by_cases o1:re.op=1
 ·simp only[if_pos o1]
  by_cases hc:i<t.length∧oQ re.set (eH t i)=true
  ·simp only[if_pos hc]
   have q:=go next (i+1) c s1 (by omega) (by omega) H.ai rfl rfl rfl (Vr _) H.s1 H.empty (hn.mono (by omega) (Vr _))
   exact q
  ·simp only[if_neg hc];exact⟨0,false,s1,rfl,no⟩
 simp only[if_neg o1]
 by_cases o2:re.op=2
 ·simp only[if_pos o2];exact here _ (F7 hn re.kids h2)
 simp only[if_neg o2]
 by_cases o3:re.op=3
 ·simp only[if_pos o3]
  obtain⟨n,b,s',k1,k2⟩:=Dz (ah:=ah) (next:=next) (s0:=s1.steps) re.kids s1 (fun k hk s hs Hs=>IH ah _ s hs ⟨by omega,h2 k hk,fun h=>by omega,fun h=>by omega,fun h=>by omega,fun h=>by omega,hn.mono (Vr _) hs⟩ Hs) (Vr _) (H.le (by omega))
  exact⟨n,b,s',k1,k2.dZ (by omega) (Vr _)⟩
 simp only[if_neg o3]
 by_cases o5:re.op=5
 ·simp only[if_pos o5]
  cases hk:re.kids with
  |nil=>exact absurd hk (QA (by omega))
  |cons kid l =>
   exact here _ ⟨by omega,h2 kid (by rw[hk];simp),fun h=>by omega,fun h=>by omega,fun h=>by omega,fun h=>by omega,by omega,hsh,fun h=>by omega,fun h=>by omega,fun h=>by omega,fun _=>⟨hi0,Vr _⟩,hn⟩
 simp only[if_neg o5]
 by_cases o6:re.op=6
 ·simp only[if_pos o6]
  have eD:=wQ H.ai re.n
  generalize bo c re.n=x at *
  by_cases c1:x.1<0
  ·simp only[if_pos c1];exact⟨0,false,s1,rfl,no⟩
  simp only[if_neg c1]
  have hx:0≤x.1∧x.1≤x.2∧x.2≤t.length:=by
   rcases eD with h|h
   ·rw[h]at c1;exact absurd (by decide) c1
   ·exact h
  simp only[if_neg (show ¬(x.2<x.1∨(t.length:Int)<x.2) by omega)]
  by_cases c3:t.length<i+x.2-x.1
  ·simp only[if_pos c3];exact⟨0,false,s1,rfl,no⟩
  simp only[if_neg c3]
  by_cases c4:cO t x.1 i (x.2-x.1).toNat=true
  ·simp only[if_pos c4]
   exact go next (i+x.2-x.1) c s1 (by omega) (by omega) H.ai rfl rfl rfl (Vr _) H.s1 H.empty (hn.mono (by omega) (Vr _))
  ·simp only[if_neg c4];exact⟨0,false,s1,rfl,no⟩
 simp only[if_neg o6]
 by_cases o7:re.op=7∨re.op=8
 ·simp only[if_pos o7]
  cases hk:re.kids with
  |nil=>exact absurd hk (QA (by omega))
  |cons kid l =>
   have nP:kid.every ix=true:=h2 kid (by rw[hk];simp)
   have look:∃n r s',kN (eh t F n) re.op kid i c s1=some (r,s')∧s1.steps≤s'.steps∧s'.steps≤F+1∧s'.empty=decide (F<s'.steps)∧s'.ends=s1.ends∧s'.ai=s1.ai∧(∀d,r=some d→cr t d∧d.length=c.length):=by
    unfold kN
    by_cases p7:re.op=7
    ·simp only[if_pos p7]
     obtain⟨n,r,s',k1,k2,k3,k4,k5,k6,k7,k8,_⟩:=nO (H.le (sl':=0) (by omega)) (fst kid .nil i s1 nP trivial (Vr _) (H.le (by omega))) rfl
     refine⟨n,r.map (·.2),s',by rw[k1],k2,k3,k4,k5,k6,fun d hd=>?_⟩
     obtain⟨p,hp,rfl⟩:=Option.map_eq_some_iff.1 hd
     have:=k8 p.1 p.2 hp
     exact⟨this.2.2.1,this.2.2.2⟩
    ·simp only[if_neg p7]
     refine vg (s0:=s1.steps) rfl H.ai _ s1 (by omega) (fun k s hk hs Hs=>fst kid _ k s nP ?_ hs Hs) (Vr _) H.s0 (by have:=H.s1;omega) (by rw[H.empty,decide_eq_false (by have:=H.s1;omega)]) (by have:=H.ends;omega) H.same
     refine⟨by omega,?_,fun h=>by omega,fun h=>by omega,fun h=>by omega,fun h=>by omega,trivial⟩
     rw[Re.cS]
     refine⟨decide_eq_true ⟨fun h=>by simp [Re.op]at h,fun h=>by simp [Re.op]at h,by simp [Re.set],by simp [Re.kids]⟩,fun k hk=>by simp [Re.kids]at hk⟩
   obtain⟨n1,r,s2,k1,k2,k3,k4,k5,k6,k7⟩:=look
   by_cases he:s2.empty=true
   ·refine⟨n1,true,s2,?_,⟨k2,k3,k4,fun _=>rfl,[],[],by rw[k5];simp,by rw[k6];simp,rfl,by simp;omega,by simp,by simp⟩⟩
    simp only[k1,if_pos he]
   have he:s2.empty=false:=by simpa using he
   have hle:=uF k4 he
   have TC:eg t F 1 i c.length s1 false s2:=⟨k2,k3,k4,fun h=>(by rw[he]at h;cases h),[],[],by rw[k5];simp,by rw[k6];simp,rfl,by simp;omega,by simp,by simp⟩
   by_cases ca:re.neg=true
   ·cases r with
    |some d =>
     refine⟨n1,false,s2,?_,TC⟩
     simp only[k1,he,Vw,if_false,if_pos ca]
    |none =>
     obtain⟨n2,b,s',j1,j2⟩:=go next i c s2 (Vr _) eK H.ai rfl k5 k6 k2 hle he (hn.mono (Vr _) k2)
     refine⟨max n1 n2,b,s',?_,j2⟩
     have hm:=rW (rec:=eh t F n1) (rec':=eh t F (max n1 n2)) (fun m task st r hr=>ek (Ws n1 n2) hr) k1
     simp only[hm,he,Vw,if_false,if_pos ca]
     exact ek (Wp n1 n2) j1
   ·cases r with
    |none =>
     refine⟨n1,false,s2,?_,TC⟩
     simp only[k1,he,Vw,if_false,if_neg ca]
    |some d =>
     obtain⟨q1,q2⟩:=k7 d rfl
     obtain⟨n2,b,s',j1,j2⟩:=go next i d s2 (Vr _) eK q1 q2 k5 k6 k2 hle he (hn.mono (Vr _) k2)
     refine⟨max n1 n2,b,s',?_,j2⟩
     have hm:=rW (rec:=eh t F n1) (rec':=eh t F (max n1 n2)) (fun m task st r hr=>ek (Ws n1 n2) hr) k1
     simp only[hm,he,Vw,if_false,if_neg ca]
     exact ek (Wp n1 n2) j1
 simp only[if_neg o7]
 by_cases o9:re.op=9
 ·simp only[if_pos o9]
  cases hk:re.kids with
  |nil=>exact absurd hk (QA (by omega))
  |cons kid l =>
   have nP:kid.every ix=true:=h2 kid (by rw[hk];simp)
   obtain⟨n1,r,s2,k1,k2,k3,k4,k5,k6,k7,k8,_⟩:=nO (H.le (sl':=0) (by omega)) (fst kid .nil i s1 nP trivial (Vr _) (H.le (by omega))) rfl
   by_cases he:s2.empty=true
   ·refine⟨n1,true,s2,?_,⟨k2,k3,k4,fun _=>rfl,[],[],by rw[k5];simp,by rw[k6];simp,rfl,by simp;omega,by simp,by simp⟩⟩
    simp only[k1,if_pos he]
   have he:s2.empty=false:=by simpa using he
   have hle:=uF k4 he
   cases r with
   |none =>
    refine⟨n1,false,s2,?_,⟨k2,k3,k4,fun h=>(by rw[he]at h;cases h),[],[],by rw[k5];simp,by rw[k6];simp,rfl,by simp;omega,by simp,by simp⟩⟩
    simp only[k1,he,Vw,if_false]
   |some p =>
    obtain⟨e,d⟩:=p
    obtain⟨q1,q2,q3,q4⟩:=k8 e d rfl
    obtain⟨n2,b,s',j1,j2⟩:=go next e d s2 q1 q2 q3 q4 k5 k6 k2 hle he (hn.mono q1 k2)
    refine⟨max n1 n2,b,s',?_,j2⟩
    have hm:=gk (rec:=eh t F n1) (rec':=eh t F (max n1 n2)) (fun m task st r hr=>ek (Ws n1 n2) hr) k1
    simp only[hm,he,Vw,if_false]
    exact ek (Wp n1 n2) j1
 simp only[if_neg o9]
 by_cases sg:re.op=10
 ·simp only[if_pos sg]
  have de:=Uv sg
  match hk:re.kids with
  |[]=>rw[hk]at de;simp at de
  |[_]=>rw[hk]at de;simp at de
  |yes::UW::l =>
   have hy:∀k,k=yes∨k=UW→k.every ix=true:=fun k h=>h2 k (by rw[hk];rcases h with rfl|rfl <;> simp)
   refine here _ ⟨by omega,hy _ ?_,fun h=>by omega,fun h=>by omega,fun h=>by omega,fun h=>by omega,hn⟩
   split
   ·exact .inl rfl
   ·exact .inr rfl
 simp only[if_neg sg]
 by_cases wT:re.op=11
 ·simp only[if_pos wT]
  by_cases hc:bN re.n t i=true
  ·simp only[if_pos hc];exact here next hn
  ·simp only[if_neg hc];exact⟨0,false,s1,rfl,no⟩
 simp only[if_neg wT]
 exact here next hn
theorem J3 {t:List Int}{F:Int}{i:Int}{c:aq}{st:aU} (aH:st.steps≤F) (IH:∀ah task s,st.steps<s.steps→task.ok t s.steps→jS t F task.pos task.ai task.gl s→Ends t F ah task s) {ah:Int}{re:Re}{k:Int}{next:Goal}
  (hsh:re.every ix=true) (o4:re.op=4) (dL:0≤k) (eO:k≤st.steps) (hn:iw t i st.steps next) (hF:F≤1200000000000) (H:jS t F i c 0 st) (hm:re.mode≠2) :
  ∃n b s',n8 F (eh t F n) ah re k next i c st=some (b,s')∧eg t F 0 i c.length st b s'∧st.steps<s'.steps:=by
 have eK:=H.i1
 have eB:=H.s0
 obtain⟨h1,h2⟩:=(Re.cS re).1 hsh
 obtain⟨QA,_⟩:=of_decide_eq_true h1
 have pR:(st.step F).steps=st.steps+1:=rfl
 unfold n8
 simp only[if_neg hm]
 simp only[if_neg (show ¬(st.steps<0∨10000000000000<st.steps) by omega)]
 by_cases he:(st.step F).empty=true
 ·simp only[if_pos he]
  exact⟨0,true,st.step F,rfl,.out aH he H.empty,by rw[pR];omega⟩
 simp only[if_neg he]
 have he:(st.step F).empty=false:=by simpa using he
 have O3:st.steps+1≤F:=by
  simp only[aU.step,H.empty,VM]at he
  have:=of_decide_eq_false he
  omega
 generalize ga:st.step F=s1 at *
 have e1:s1.ends=st.ends:=by rw[← ga];rfl
 have e2:s1.ai=st.ai:=by rw[← ga];rfl
 have H1:∀sl,sl≤1→jS t F i c sl s1:=fun sl th=>H.at (Vr _) eK H.ai e1 e2 (by omega) (by omega) he (by omega)
 cases hk:re.kids with
 |nil=>exact absurd hk (QA (by omega))
 |cons kid l =>
  have nP:kid.every ix=true:=h2 kid (by rw[hk];simp)
  have kv:iw t i s1.steps next:=hn.mono (Vr _) (by omega)
  have vx:∀s:aU,s1.steps≤s.steps→iw t i s.steps (.mk 0 kid 0 0 (.mk 2 re k i next)):=fun s hs =>
   ⟨by omega,nP,fun h=>by omega,fun h=>by omega,fun h=>by omega,fun h=>by omega,by omega,hsh,fun _=>o4,fun h=>by omega,fun _=>⟨dL,by omega⟩,fun h=>by omega,kv.mono (Vr _) hs⟩
  have once:∀s,s1.steps≤s.steps→jS t F i c 0 s→∃n b s',eh t F n ah (.run (.mk 0 kid 0 0 (.mk 2 re k i next)) i c) s=some (b,s')∧eg t F 0 i c.length s b s':=fun s hs Hs=>by
   obtain⟨n,b,s',q1,q2,_⟩:=IH ah (.run (.mk 0 kid 0 0 (.mk 2 re k i next)) i c) s (by omega) (vx s hs) Hs
   exact⟨n,b,s',q1,q2⟩
  have Oc:∀s,s1.steps≤s.steps→jS t F i c 1 s→∃n b s',eh t F n ah (.run next i c) s=some (b,s')∧eg t F 1 i c.length s b s':=fun s hs Hs=>by
   have th:=gv next
   obtain⟨n,b,s',q1,q2,_⟩:=IH ah (.run next i c) s (by omega) (kv.mono (Vr _) hs) (Hs.le th.2)
   exact⟨n,b,s',q1,q2.dZ th.2 (Vr _)⟩
  have fin:∀{b s'},eg t F 1 i c.length s1 b s'→eg t F 0 i c.length st b s'∧st.steps<s'.steps:=fun {b s'} h=>⟨by have:=h.same (st:=st) (d:=1) e1 e2 (by omega) (by omega) (Vr _);simpa using this,by have:=h.s0;omega⟩
  simp only
  by_cases c2:k<re.mn
  ·simp only[if_pos c2]
   obtain⟨n,b,s',q1,q2⟩:=once s1 (Vr _) (H1 0 (by omega))
   exact⟨n,b,s',q1,fin (q2.dZ (by omega) (Vr _))⟩
  simp only[if_neg c2]
  have no:∀s,jS t F i c 0 s→eg t F 0 i c.length s false s:=fun s Hs=>.no Hs.s1 Hs.empty (Vr _)
  by_cases m1:re.mode=1
  ·simp only[if_pos m1]
   obtain⟨n1,b1,s2,q1,q2⟩:=Oc s1 (Vr _) (H1 1 (Vr _))
   cases b1 with
   |true=>exact⟨n1,true,s2,by rw[q1];rfl,fin q2⟩
   |false =>
    have H2:=(H1 1 (Vr _)).next q2 (sl':=0) (by omega)
    by_cases hM:re.mx=-1∨k<re.mx
    ·simp only[if_pos hM]
     obtain⟨n2,b2,s3,j1,j2⟩:=once s2 (by have:=q2.s0;omega) H2
     refine⟨max n1 n2,b2,s3,?_,fin (by have:=q2.trans j2;simpa using this)⟩
     rw[ek (Ws n1 n2) q1]
     exact ek (Wp n1 n2) j1
    ·simp only[if_neg hM]
     exact⟨n1,false,s2,by rw[q1];rfl,fin q2⟩
  ·simp only[if_neg m1]
   by_cases hM:re.mx=-1∨k<re.mx
   ·simp only[if_pos hM]
    obtain⟨n1,b1,s2,q1,q2⟩:=once s1 (Vr _) (H1 0 (by omega))
    cases b1 with
    |true=>exact⟨n1,true,s2,by rw[q1];rfl,fin (q2.dZ (by omega) (Vr _))⟩
    |false =>
     have H2:=(H1 1 (Vr _)).next q2 (sl':=1) (by omega)
     obtain⟨n2,b2,s3,j1,j2⟩:=Oc s2 (by have:=q2.s0;omega) H2
     refine⟨max n1 n2,b2,s3,?_,fin (by have:=q2.trans j2;simpa using this)⟩
     rw[ek (Ws n1 n2) q1]
     exact ek (Wp n1 n2) j1
   ·simp only[if_neg hM]
    obtain⟨n1,b1,s2,q1,q2⟩:=Oc s1 (Vr _) (H1 1 (Vr _))
    exact⟨n1,b1,s2,q1,fin q2⟩
theorem Ko {t:List Int}{F:Int} (hF:F≤1200000000000):∀(N r:Nat) (ah:Int) (task:Task) (st:aU),(F+1-st.steps).toNat≤N→task.tQ≤r→task.ok t st.steps→jS t F task.pos task.ai task.gl st→Ends t F ah task st:=by
 intro N
 induction N with
 |zero=>intro r ah task st hN _ _ H;have:=H.s1;omega
 |succ N UT =>
  intro r
  -- after a step
  have JX:∀(st:aU),(F+1-st.steps).toNat≤N+1→st.steps≤F→∀ah task s,st.steps<s.steps→task.ok t s.steps→jS t F task.pos task.ai task.gl s→Ends t F ah task s :=
   fun st hN hs ah task s aT m8 H=>UT task.tQ ah task s (by omega) (VA _) m8 H
  induction r with
  |zero =>
   intro ah task st hN hr m8 H
   cases task with
   |run g i c =>
    cases g with
    |nil =>
     have hi0:0≤i:=H.i0
     have eK:i≤t.length:=H.i1
     have nn:=H.ends
     have ga:=H.s1
     have th:(Task.run Goal.nil i c).gl=1:=rfl
     rw[th]at nn
     refine⟨1,decide (0≤ah)&&decide (ah≤(st.ends.length:Int)+1),{ st with ends:=st.ends++[i],ai:=st.ai++[c] },?_,?_,fun h=>h.elim⟩
     ·show b8 t F (eh t F 0) ah (.run .nil i c) st=_
      simp only[b8]
      rw[if_neg (by omega),if_pos ⟨by omega,H.same⟩]
     ·refine⟨Vr _,by show st.steps≤F+1;omega,?_,fun h=>?_,[i],[c],rfl,rfl,rfl,?_,fun e he=>?_,fun d hd=>?_⟩
      ·show st.empty=decide (F<st.steps)
       rw[H.empty,decide_eq_false (by omega)]
      ·have h:st.empty=true:=h
       rw[H.empty]at h;cases h
      ·rw[th];show ((1:Nat):Int)≤st.steps-st.steps+1;omega
      ·rw[List.mem_singleton.1 he];exact⟨Vr _,eK⟩
      ·rw[List.mem_singleton.1 hd];exact⟨H.ai,rfl⟩
    |mk kind re k bO next =>
     exfalso
     simp only[Task.tQ,sy]at hr
     split at hr
     ·split at hr <;> omega
     ·split at hr
      ·omega
      ·split at hr <;> omega
   |rep g i c =>
    cases g with
    |nil=>exact m8.elim
    |mk kind re k bO next =>
     exfalso
     simp only[Task.tQ]at hr
     split at hr <;> omega
   |node g i c=>simp [Task.tQ]at hr
  |succ r ihr =>
   intro ah task st hN hr m8 H
   have hi0:=H.i0
   have eK:=H.i1
   have eB:=H.s0
   have ga:=H.s1
   cases task with
   |run g i c =>
    have hi0:0≤i:=hi0
    have eK:i≤t.length:=eK
    cases g with
    |nil=>exact ihr ah _ st hN (Nat.zero_le _) m8 H
    |mk kind re k bO next =>
     obtain⟨g0,g1,g2,g3,g4,g5,g6⟩:=m8
     by_cases k1:kind=1
     ·have NV:Task.tQ (.rep (.mk kind re k bO next) i c)≤r:=by
       simp only[Task.tQ,sy,if_pos k1]at hr ⊢
       split <;> rename_i hm <;> simp only[hm,if_true,if_false]at hr <;> omega
      refine Ends.via (task':=.rep (.mk kind re k bO next) i c) (fun rec=>?_) (ihr ah _ st hN NV ⟨g1,g2 (.inl k1),(g3 k1).1,(g3 k1).2,g6⟩ ⟨hi0,eK,H.ai,H.empty,eB,ga,?_,H.same⟩) ?_ (Vr _) rfl (fun h=>h.2)
      ·simp only[b8];rw[if_neg (by omega),if_pos k1]
      ·have:=H.ends;have:=(gv (.mk kind re k bO next)).1;simp only[Task.gl]at *;omega
      ·simp [Task.gl];exact(gv _).1
     by_cases k2:kind=2
     ·have th:ez (.mk kind re k bO next)=0:=by rw[ez,if_neg (by omega)]
      have nn:=H.ends
      simp only[Task.gl,th]at nn
      by_cases c1:re.mn≤k∧i=bO
      ·refine⟨1,false,st,?_,.no ga H.empty (by simp only[Task.gl,th];omega),fun h=>absurd h.1 k1⟩
       show b8 t F (eh t F 0) ah _ st=_
       simp only[b8]
       rw[if_neg (by omega),if_neg k1,if_pos k2,if_pos c1]
      ·have hk:=g4 k2
       refine Ends.via (task':=.run (.mk 1 re (k+1) 0 next) i c) (fun rec=>?_) (ihr ah _ st hN ?_ ⟨by omega,g1,fun _=>g2 (.inr k2),fun _=>⟨by omega,by omega⟩,fun h=>by omega,fun h=>by omega,g6⟩ ⟨hi0,eK,H.ai,H.empty,eB,ga,?_,H.same⟩) ?_ (Vr _) rfl (fun h=>absurd h.1 k1)
       ·simp only[b8];rw[if_neg (by omega),if_neg k1,if_pos k2,if_neg c1,if_neg (by omega)]
       ·simp only[Task.tQ,sy]at hr ⊢
        rw[if_neg k1,if_pos k2]at hr
        simp only[if_true]
        split <;> omega
       ·simp [Task.gl,ez];omega
       ·simp only[Task.gl,th];simp [ez]
     by_cases k3:kind=3
     ·have hf:=g5 k3
      have th:ez (.mk kind re k bO next)=ez next:=by rw[ez,if_pos (.inl k3)]
      obtain⟨w1,w2⟩:=cr.with (n:=re.n) (H.ai:cr t c) hf.1 hf.2 eK
      have cI:c.length≤1000000000:=(H.ai:cr t c).1
      refine Ends.via (task':=.run next i (jf c re.n bO i)) (fun rec=>?_) (ihr ah _ st hN ?_ g6 ⟨hi0,eK,w1,H.empty,eB,ga,?_,H.same⟩) ?_ (Vr _) w2 (fun h=>absurd h.1 k1)
      ·simp only[b8];rw[if_neg (by omega),if_neg k1,if_neg k2,if_pos k3,if_neg (by omega)]
      ·simp only[Task.tQ]at hr ⊢
       rw[sy,if_neg k1,if_neg k2,if_pos (.inl k3)]at hr
       omega
      ·have:=H.ends;simp only[Task.gl,th]at this ⊢;exact this
      ·simp only[Task.gl,th];exact Vr _
     by_cases k4:kind=4
     ·have th:ez (.mk kind re k bO next)=ez next:=by rw[ez,if_pos (.inr k4)]
      by_cases c1:i=bO
      ·refine Ends.via (task':=.run next i c) (fun rec=>?_) (ihr ah _ st hN ?_ g6 ⟨hi0,eK,H.ai,H.empty,eB,ga,?_,H.same⟩) ?_ (Vr _) rfl (fun h=>absurd h.1 k1)
       ·simp only[b8];rw[if_neg (by omega),if_neg k1,if_neg k2,if_neg k3,if_pos k4,if_pos c1]
       ·simp only[Task.tQ]at hr ⊢
        rw[sy,if_neg k1,if_neg k2,if_pos (.inr k4)]at hr
        omega
       ·have:=H.ends;simp only[Task.gl,th]at this ⊢;exact this
       ·simp only[Task.gl,th];exact Vr _
      ·refine⟨1,false,st,?_,.no ga H.empty (gv _).1,fun h=>absurd h.1 k1⟩
       show b8 t F (eh t F 0) ah _ st=_
       simp only[b8]
       rw[if_neg (by omega),if_neg k1,if_neg k2,if_neg k3,if_pos k4,if_neg c1]
     have th:ez (.mk kind re k bO next)=0:=by rw[ez,if_neg (by omega)]
     refine Ends.via (task':=.node (.mk kind re k bO next) i c) (fun rec=>?_) (ihr ah _ st hN ?_ ⟨g1,g6⟩ ⟨hi0,eK,H.ai,H.empty,eB,ga,?_,H.same⟩) ?_ (Vr _) rfl (fun h=>absurd h.1 k1)
     ·simp only[b8];rw[if_neg (by omega),if_neg k1,if_neg k2,if_neg k3,if_neg k4]
     ·simp only[Task.tQ]at hr ⊢
      rw[sy,if_neg k1,if_neg k2,if_neg (by omega)]at hr
      omega
     ·have:=H.ends;simp only[Task.gl,th]at this ⊢;exact this
     ·simp only[Task.gl,th];exact Vr _
   |rep g i c =>
    have hi0:0≤i:=hi0
    have eK:i≤t.length:=eK
    cases g with
    |nil=>exact m8.elim
    |mk kind re k bO next =>
     obtain⟨g1,g2,g3,g4,g5⟩:=m8
     have nn:(st.ends.length:Int)+0≤st.steps:=H.ends
     by_cases hm:re.mode=2
     ·have hf:=nO (t:=t) (F:=F) (g:=.mk 1 (re.bP 0) 0 0 .nil) (i:=i) (c:=c) (sl:=0) (st:=st) ⟨hi0,eK,H.ai,H.empty,eB,ga,nn,H.same⟩
       (ihr 1 _ _ (by simpa using hN) (by
        simp only[Task.tQ,sy]at hr ⊢
        simp only[hm,if_true]at hr
        have gf:¬(re.bP 0).mode=2:=by simp [Re.bP,Re.mode]
        simp only[if_true]
        rw[if_neg gf];omega) ⟨by omega,yV g1 0,fun _=>g2,fun _=>⟨Vr _,eB⟩,fun h=>by omega,fun h=>by omega,trivial⟩ ⟨hi0,eK,H.ai,rfl,eB,ga,(by simp [Task.gl,ez];exact eB),rfl⟩) (by simp [ez])
      obtain⟨n1,r1,s1,j1,j2,j3,j4,j5,j6,j7,j8,j9⟩:=hf
      have aT:st.steps<s1.steps:=j9 ⟨rfl,by simp [Re.bP,Re.mode]⟩
      have Gy:¬(Task.rep (.mk kind re k bO next) i c).xF:=fun h=>h hm
      have eT:∀n r',n8 F (eh t F n) ah re k next i c st=r'→eh t F (n+1) ah (.rep (.mk kind re k bO next) i c) st=r':=fun n r' h=>by
       show b8 t F (eh t F n) ah _ st=_
       simp only[b8];rw[if_neg (by omega)];exact h
      cases r1 with
      |none =>
       refine⟨n1+1,s1.empty,s1,eT n1 _ ?_,⟨j2,j3,j4,fun h=>h,[],[],by rw[j5];simp,by rw[j6];simp,rfl,by simp [Task.gl];omega,by simp,by simp⟩,fun h=>(Gy h).elim⟩
       unfold n8
       rw[if_pos hm,j1]
      |some p =>
       obtain⟨e,d⟩:=p
       obtain⟨q1,q2,q3,q4⟩:=j8 e d rfl
       have he:s1.empty=false:=by
        cases hx:s1.empty with
        |false=>rfl
        |true=>have:=j7 hx;cases this
       have hle:=uF j4 he
       have th:=gv next
       obtain⟨n2,b,s',l1,l2,_⟩:=JX st hN ga ah (.run next e d) s1 aT (g5.mono q1 j2) ⟨Int.le_trans hi0 q1,q2,q3,he,by omega,hle,by rw[j5];simp only[Task.gl];omega,by rw[j5,j6];exact H.same⟩
       have l2:eg t F (ez next) e d.length s1 b s':=l2
       rw[q4]at l2
       have l3:=(l2.dZ (sl':=1) th.2 (Vr _)).same (st:=st) (d:=1) (i:=i) j5 j6 (by omega) (by omega) q1
       refine⟨max n1 n2+1,b,s',eT _ _ ?_,(show eg t F 0 i c.length st b s' by simpa using l3),fun h=>(Gy h).elim⟩
       unfold n8
       have hmn:=gk (rec:=eh t F n1) (rec':=eh t F (max n1 n2)) (fun m task st r hr=>ek (Ws n1 n2) hr) j1
       rw[if_pos hm,hmn]
       exact ek (Wp n1 n2) l1
     ·obtain⟨n,b,s',q1,q2,q3⟩:=J3 ga (JX st hN ga) (ah:=ah) g1 g2 g3 g4 g5 hF (⟨hi0,eK,H.ai,H.empty,eB,ga,nn,H.same⟩:jS t F i c 0 st) hm
      refine⟨n+1,b,s',?_,q2,fun _=>q3⟩
      show b8 t F (eh t F n) ah _ st=_
      simp only[b8];rw[if_neg (by omega)];exact q1
   |node g i c =>
    have hi0:0≤i:=hi0
    have eK:i≤t.length:=eK
    cases g with
    |nil=>exact m8.elim
    |mk kind re k bO next =>
     obtain⟨g1,g6⟩:=m8
     have nn:(st.ends.length:Int)+0≤st.steps:=H.ends
     obtain⟨h1,h2⟩:=(Re.cS re).1 g1
     obtain⟨_,_,UZ,U4⟩:=of_decide_eq_true h1
     have cI:c.length≤1000000000:=(H.ai:cr t c).1
     by_cases o4:re.op=4
     ·refine Ends.via (task':=.rep (.mk 1 re 0 0 next) i c) (fun rec=>?_) (ihr ah _ st hN ?_ ⟨g1,o4,Vr _,eB,g6⟩ ⟨hi0,eK,H.ai,H.empty,eB,ga,nn,H.same⟩) (Vr _) (Vr _) rfl (fun h=>absurd o4 h)
      ·simp only[b8];rw[if_neg (by omega),if_pos o4]
      ·simp only[Task.tQ]at hr ⊢
       split <;> omega
     ·have pR:(st.step F).steps=st.steps+1:=rfl
      have eT:∀n,eh t F (n+1) ah (.node (.mk kind re k bO next) i c) st=if (st.step F).empty then some (true,st.step F) else eQ t (eh t F n) ah re next i c (st.step F):=fun n=>by
       show b8 t F (eh t F n) ah _ st=_
       simp only[b8]
       rw[if_neg (by omega),if_neg o4,if_neg (by omega),if_neg (by omega)]
      by_cases he:(st.step F).empty=true
      ·refine⟨1,true,st.step F,?_,.out ga he H.empty,fun _=>by rw[pR];omega⟩
       rw[eT 0,if_pos he]
      ·have vj:(st.step F).empty=false:=by simpa using he
       have O3:st.steps+1≤F:=by
        simp only[aU.step,H.empty,VM]at vj
        have:=of_decide_eq_false vj
        omega
       have H1:jS t F i c 1 (st.step F):=⟨hi0,eK,H.ai,vj,by rw[pR];omega,by rw[pR];omega,by rw[pR];show (st.ends.length:Int)+1≤st.steps+1;omega,H.same⟩
       obtain⟨n,b,s',q1,q2⟩:=Hd (fun ah task s hs RS H'=>JX st hN ga ah task s (by rw[pR]at hs;omega) RS H') (ah:=ah) g1 (g6.mono (Vr _) (by rw[pR];omega)) H1
       refine⟨n+1,b,s',?_,(show eg t F 0 i c.length st b s' by simpa using q2.step),fun _=>by have:=q2.s0;rw[pR]at this;omega⟩
       rw[eT n,if_neg he];exact q1
end Go.Proofs.Ytllagoeijcjpiaa
