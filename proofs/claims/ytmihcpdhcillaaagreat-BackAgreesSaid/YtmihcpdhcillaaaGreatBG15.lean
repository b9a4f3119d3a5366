/- A part of the proof (G15 G16 G17). -/
import Derived.Test.YtmihcpdhcillaaaGreatBG6
set_option linter.unusedSimpArgs false
set_option linter.unusedVariables false
set_option maxRecDepth 100000
set_option maxHeartbeats 80000000
namespace Go.Proofs.YtmihcpdhcillaaaGreat
open Go.VL Go.Proofs.Tryz
theorem eb.same {t:List Int}{F sl i e d:Int}{nc:Nat}{st s1 st':aQ}{b:Bool} (h:eb t F sl e nc s1 b st') (he:s1.ends=st.ends) (hc:s1.ak=st.ak) (hs:st.steps+d≤s1.steps) (hd:0≤d) (hi:i≤e):eb t F (sl-d) i nc st b st':=by
 obtain⟨new,mg,h1,h2,h3,h4,h5,h6⟩:=h.more
 exact⟨by have:=h.s0;omega,h.s1,h.empty,h.full,new,mg,by rw[h1,he],by rw[h2,hc],h3,by omega,fun x hx=>⟨by have:=h5 x hx;omega,(h5 x hx).2⟩,h6⟩
theorem jH.next {t:List Int}{F i:Int}{c:ar}{sl UN sl':Int}{st s1:aQ} (H:jH t F i c sl st) (h:eb t F UN i c.length st false s1) (hs:UN+sl'≤sl):jH t F i c sl' s1:=by
 have he:s1.empty=false:=by
  cases hx:s1.empty with
  |false=>rfl
  |true=>have:=h.full hx;cases this
 have hd:=h.empty
 rw[he]at hd
 have hle:s1.steps≤F:=by
  have:=of_decide_eq_false hd.symm
  omega
 obtain⟨new,mg,h1,h2,h3,h4,h5,h6⟩:=h.more
 refine⟨H.i0,H.i1,H.ak,he,by have:=H.s0;have:=h.s0;omega,hle,?_,?_⟩
 ·have:=H.ends
  rw[h1,W5,XY];omega
 ·rw[h1,h2,W5,W5,h3,H.same]
theorem Ends.via {t:List Int}{F ah:Int}{task task':Task}{st:aQ} (heq:∀rec,bI t F rec ah task st=rec ah task' st) (h:Ends t F ah task' st) (h1:task'.fU≤task.fU) (h2:task.pos≤task'.pos) (h3:task'.ak.length=task.ak.length)
  (h4:task.xD→task'.xD):Ends t F ah task st:=by
 obtain⟨n,b,st',k1,k2,k3⟩:=h
 exact⟨n+1,b,st',by show bI t F (dA t F n) ah task st=_;rw[heq];exact k1,(h3 ▸ k2.fi h1 h2),fun hs=>k3 (h4 hs)⟩
theorem Dn {t:List Int}{F ah:Int}{i:Int}{c:ar}{next:Goal}{s0:Int}:∀(l:List Re) (st:aQ),(∀k∈l,∀s:aQ,s0≤s.steps→jH t F i c 0 s→Ends t F ah (.run (.mk 0 k 0 0 next) i c) s)→s0≤st.steps→jH t F i c 0 st →
  ∃n b s',iT (fun k st=>dA t F n ah (.run (.mk 0 k 0 0 next) i c) st) l st=some (b,s')∧eb t F 0 i c.length st b s'
 |[],st,_,_,H=>⟨0,false,st,rfl,.no H.s1 H.empty (WW _)⟩
 |k::l,st,h,hs,H=>by
  obtain⟨n1,b1,s1,k1,k2,_⟩:=h k (by simp) st hs H
  have k2:eb t F 0 i c.length st b1 s1:=k2
  cases b1 with
  |true =>
   refine⟨n1,true,s1,?_,k2⟩
   simp only[iT,k1,jP]
  |false =>
   have H1:=H.next k2 (sl':=0) (by omega)
   obtain⟨n2,b2,s2,j1,j2⟩:=Dn l s1 (fun k hk=>h k (by simp [hk])) (by have:=k2.s0;omega) H1
   refine⟨max n1 n2,b2,s2,?_,k2.trans j2⟩
   simp only[iT,dY (X6 n1 n2) k1,jP]
   exact vc (fun k st r hr=>dY (X2 n1 n2) hr) l s1 _ j1
theorem vv {t:List Int}{F:Int}{g:Goal}{c:ar}{s0:Int} (tg:eo g=0) (hc:cJ t c):∀(m:Nat) (st:aQ),(m:Int)≤t.length+1→(∀(k:Nat) (s:aQ),k<m→s0≤s.steps→jH t F k c 0 s→Ends t F 1 (.run g k c) ⟨s.steps,false,[],[]⟩)→s0≤st.steps →
  0≤st.steps→st.steps≤F+1→st.empty=decide (F<st.steps)→(st.ends.length:Int)≤st.steps→st.ak.length=st.ends.length →
  ∃n r s',bQ (fun k st=>bJ (dA t F n) g k c st) m st=some (r,s')∧st.steps≤s'.steps∧s'.steps≤F+1∧s'.empty=decide (F<s'.steps)∧s'.ends=st.ends∧s'.ak=st.ak∧(∀d,r=some d→cJ t d∧d.length=c.length)
 |0,st,_,_,_,h0,h1,he,hl,hs=>⟨0,none,st,rfl,WW _,h1,he,rfl,rfl,fun d h=>(by cases h)⟩
 |m+1,st,hm,h,ij,h0,h1,he,hl,hs=>by
  by_cases hx:st.empty=true
  ·exact⟨0,none,st,by simp only[bQ,if_pos hx],WW _,h1,he,rfl,rfl,fun d h=>(by cases h)⟩
  have hx:st.empty=false:=by simpa using hx
  have hle:st.steps≤F:=by
   rw[hx]at he
   have:=of_decide_eq_false he.symm
   omega
  have H:jH t F (m:Nat) c 0 st:=⟨by omega,by omega,hc,hx,h0,hle,by omega,hs⟩
  obtain⟨n1,r1,s1,k1,k2,k3,k4,k5,k6,k7,k8,_⟩:=ox H (h m st (by omega) ij H) tg
  cases r1 with
  |some p =>
   obtain⟨e,d⟩:=p
   refine⟨n1,some d,s1,?_,k2,k3,k4,k5,k6,fun d' h=>?_⟩
   ·simp only[bQ,hx,W2,if_false,k1]
   ·cases h
    have:=k8 e d rfl
    exact⟨this.2.2.1,this.2.2.2⟩
  |none =>
   obtain⟨n2,r2,s2,j1,j2,j3,j4,j5,j6,j7⟩:=vv tg hc m s1 (by omega) (fun k s hk=>h k s (by omega)) (by omega) (by omega) k3 k4 (by rw[k5];omega) (by rw[k5,k6];exact hs)
   refine⟨max n1 n2,r2,s2,?_,by omega,j3,j4,by rw[j5,k5],by rw[j6,k6],j7⟩
   simp only[bQ,hx,W2,if_false]
   rw[fQ (fun m task st r hr=>dY (X6 n1 n2) hr) k1]
   exact oN (fun k st r hr=>fQ (fun m task st r hr=>dY (X2 n1 n2) hr) hr) m s1 _ j1
theorem cJ.with {t:List Int}{c:ar}{n cT to:Int} (h:cJ t c) (h0:0≤cT) (h1:cT≤to) (h2:to≤t.length):cJ t (ku c n cT to)∧(ku c n cT to).length=c.length:=by
 unfold ku
 split
 ·refine⟨⟨by simpa using h.1,fun p hp=>?_⟩,by simp⟩
  rcases List.mem_or_eq_of_mem_set hp with hp|rfl
  ·exact h.2 p hp
  ·exact .inr ⟨h0,h1,h2⟩
 ·exact⟨h,rfl⟩
theorem xM {t:List Int}{c:ar} (h:cJ t c) (n:Int):Kq t (bm c n):=by
 unfold bm
 split
 ·exact .inl rfl
 ·rename_i hn
  have aS:(n-1).toNat<c.length:=by omega
  rw[List.getD,WZ aS]
  exact h.2 _ (List.getElem_mem aS)
theorem zf {re:Re} (h:re.every ig=true) (m:Int):(re.cq m).every ig=true:=by
 rw[Re.ck]at h ⊢
 exact⟨h.1,h.2⟩
theorem Ga {t:List Int}{i s:Int}{next:Goal} (hn:il t i s next):∀l:List Re,(∀k∈l,k.every ig=true)→il t i s (iZ l next)
 |[],_=>hn
 |k::l,h=>⟨by omega,h k (by simp),fun h=>by omega,fun h=>by omega,fun h=>by omega,fun h=>by omega,Ga hn l (fun x hx=>h x (by simp [hx]))⟩
theorem jH.le {t:List Int}{F i:Int}{c:ar}{sl sl':Int}{s:aQ} (H:jH t F i c sl s) (h:sl'≤sl):jH t F i c sl' s :=
 ⟨H.i0,H.i1,H.ak,H.empty,H.s0,H.s1,by have:=H.ends;omega,H.same⟩
theorem jH.at {t:List Int}{F i e:Int}{c d:ar}{sl sl':Int}{s s2:aQ} (H:jH t F i c sl s) (QV:i≤e) (jK:e≤t.length) (hd:cJ t d) (h1:s2.ends=s.ends) (h2:s2.ak=s.ak) (h3:s.steps≤s2.steps) (h4:s2.steps≤F) (h5:s2.empty=false) (h6:sl'≤sl+(s2.steps-s.steps)):jH t F e d sl' s2 :=
 ⟨by have:=H.i0;omega,jK,hd,h5,by have:=H.s0;omega,h4,by have:=H.ends;rw[h1];omega,by rw[h1,h2];exact H.same⟩
theorem tY {F:Int}{s:aQ} (h:s.empty=decide (F<s.steps)) (he:s.empty=false):s.steps≤F:=by
 rw[he]at h
 have:=of_decide_eq_false h.symm
 omega
theorem It {t:List Int}{F:Int}{i:Int}{c:ar}{s1:aQ} (IH:∀ah task s,s1.steps≤s.steps→task.ok t s.steps→jH t F task.pos task.ak task.fU s→Ends t F ah task s) {ah:Int}{re:Re}{next:Goal}
  (hsh:re.every ig=true) (hn:il t i s1.steps next) (H:jH t F i c 1 s1) :
  ∃n b s',cQ t (dA t F n) ah re next i c s1=some (b,s')∧eb t F 1 i c.length s1 b s':=by
 obtain⟨h1,h2⟩:=(Re.ck re).1 hsh
 obtain⟨QN,Ws,_,_⟩:=of_decide_eq_true h1
 have hi0:=H.i0
 have e7:=H.i1
 -- run VW on at a goal
 have go:∀(g:Goal) (e:Int) (d:ar) (s2:aQ),i≤e→e≤t.length→cJ t d→d.length=c.length→s2.ends=s1.ends→s2.ak=s1.ak→s1.steps≤s2.steps→s2.steps≤F→s2.empty=false→il t e s2.steps g →
   ∃n b s',dA t F n ah (.run g e d) s2=some (b,s')∧eb t F 1 i c.length s1 b s':=by
  intro g e d s2 a1 a2 a3 a4 a5 a6 a7 a8 a9 hg
  have hs:=fZ g
  obtain⟨n,b,s',k1,k2,_⟩:=IH ah (.run g e d) s2 a7 hg (H.at (sl':=eo g) a1 a2 a3 a5 a6 a7 a8 a9 (by omega))
  have k2:eb t F (eo g) e d.length s2 b s':=k2
  rw[a4]at k2
  have k3:=(k2.fi (sl':=1) hs.2 (WW _)).same (st:=s1) (d:=0) (i:=i) a5 a6 (by omega) (WW _) a1
  rw[Int.sub_zero]at k3
  exact⟨n,b,s',k1,k3⟩
 have here:∀g,il t i s1.steps g→∃n b s',dA t F n ah (.run g i c) s1=some (b,s')∧eb t F 1 i c.length s1 b s':=fun g hg=>go g i c s1 (WW _) e7 H.ak rfl rfl rfl (WW _) H.s1 H.empty hg
 have no:eb t F 1 i c.length s1 false s1:=.no H.s1 H.empty (by omega)
 -- II first result of a kid
 have fst:∀(kid:Re) (tail:Goal) (k:Int) (s:aQ),kid.every ig=true→il t k s.steps tail→s1.steps≤s.steps→jH t F k c 0 s→Ends t F 1 (.run (.mk 0 kid 0 0 tail) k c) ⟨s.steps,false,[],[]⟩:=by
  intro kid tail k s b1 b2 b3 Hs
  refine IH 1 _ _ b3 ⟨by omega,b1,fun h=>by omega,fun h=>by omega,fun h=>by omega,fun h=>by omega,b2⟩ ⟨Hs.i0,Hs.i1,Hs.ak,rfl,Hs.s0,Hs.s1,?_,rfl⟩
  have:=Hs.s0
  simp [Task.fU,eo];omega
 unfold cQ
 by_cases o1:re.op=1
 ·simp only[if_pos o1]
  by_cases hc:i<t.length∧nn re.set (fX t i)=true
  ·simp only[if_pos hc]
   have q:=go next (i+1) c s1 (by omega) (by omega) H.ak rfl rfl rfl (WW _) H.s1 H.empty (hn.mono (by omega) (WW _))
   exact q
  ·simp only[if_neg hc];exact⟨0,false,s1,rfl,no⟩
 simp only[if_neg o1]
 by_cases o2:re.op=2
 ·simp only[if_pos o2];exact here _ (Ga hn re.kids h2)
 simp only[if_neg o2]
 by_cases o3:re.op=3
 ·simp only[if_pos o3]
  obtain⟨n,b,s',k1,k2⟩:=Dn (ah:=ah) (next:=next) (s0:=s1.steps) re.kids s1 (fun k hk s hs Hs=>IH ah _ s hs ⟨by omega,h2 k hk,fun h=>by omega,fun h=>by omega,fun h=>by omega,fun h=>by omega,hn.mono (WW _) hs⟩ Hs) (WW _) (H.le (by omega))
  exact⟨n,b,s',k1,k2.fi (by omega) (WW _)⟩
 simp only[if_neg o3]
 by_cases o5:re.op=5
 ·simp only[if_pos o5]
  cases hk:re.kids with
  |nil=>exact absurd hk (QN (by omega))
  |cons kid l =>
   exact here _ ⟨by omega,h2 kid (by rw[hk];simp),fun h=>by omega,fun h=>by omega,fun h=>by omega,fun h=>by omega,by omega,hsh,fun h=>by omega,fun h=>by omega,fun h=>by omega,fun _=>⟨hi0,WW _⟩,hn⟩
 simp only[if_neg o5]
 by_cases o6:re.op=6
 ·simp only[if_pos o6]
  have dr:=xM H.ak re.n
  generalize bm c re.n=x at *
  by_cases c1:x.1<0
  ·simp only[if_pos c1];exact⟨0,false,s1,rfl,no⟩
  simp only[if_neg c1]
  have hx:0≤x.1∧x.1≤x.2∧x.2≤t.length:=by
   rcases dr with h|h
   ·rw[h]at c1;exact absurd (by decide) c1
   ·exact h
  simp only[if_neg (show ¬(x.2<x.1∨(t.length:Int)<x.2) by omega)]
  by_cases c3:t.length<i+x.2-x.1
  ·simp only[if_pos c3];exact⟨0,false,s1,rfl,no⟩
  simp only[if_neg c3]
  by_cases c4:cW t x.1 i (x.2-x.1).toNat=true
  ·simp only[if_pos c4]
   exact go next (i+x.2-x.1) c s1 (by omega) (by omega) H.ak rfl rfl rfl (WW _) H.s1 H.empty (hn.mono (by omega) (WW _))
  ·simp only[if_neg c4];exact⟨0,false,s1,rfl,no⟩
 simp only[if_neg o6]
 by_cases o7:re.op=7∨re.op=8
 ·simp only[if_pos o7]
  cases hk:re.kids with
  |nil=>exact absurd hk (QN (by omega))
  |cons kid l =>
   have zc:kid.every ig=true:=h2 kid (by rw[hk];simp)
   have look:∃n r s',fS (dA t F n) re.op kid i c s1=some (r,s')∧s1.steps≤s'.steps∧s'.steps≤F+1∧s'.empty=decide (F<s'.steps)∧s'.ends=s1.ends∧s'.ak=s1.ak∧(∀d,r=some d→cJ t d∧d.length=c.length):=by
    unfold fS
    by_cases p7:re.op=7
    ·simp only[if_pos p7]
     obtain⟨n,r,s',k1,k2,k3,k4,k5,k6,k7,k8,_⟩:=ox (H.le (sl':=0) (by omega)) (fst kid .nil i s1 zc trivial (WW _) (H.le (by omega))) rfl
     refine⟨n,r.map (·.2),s',by rw[k1],k2,k3,k4,k5,k6,fun d hd=>?_⟩
     obtain⟨p,hp,rfl⟩:=Option.map_eq_some_iff.1 hd
     have:=k8 p.1 p.2 hp
     exact⟨this.2.2.1,this.2.2.2⟩
    ·simp only[if_neg p7]
     refine vv (s0:=s1.steps) rfl H.ak _ s1 (by omega) (fun k s hk hs Hs=>fst kid _ k s zc ?_ hs Hs) (WW _) H.s0 (by have:=H.s1;omega) (by rw[H.empty,decide_eq_false (by have:=H.s1;omega)]) (by have:=H.ends;omega) H.same
     refine⟨by omega,?_,fun h=>by omega,fun h=>by omega,fun h=>by omega,fun h=>by omega,trivial⟩
     rw[Re.ck]
     refine⟨decide_eq_true ⟨fun h=>by simp [Re.op]at h,fun h=>by simp [Re.op]at h,by simp [Re.set],by simp [Re.kids]⟩,fun k hk=>by simp [Re.kids]at hk⟩
   obtain⟨n1,r,s2,k1,k2,k3,k4,k5,k6,k7⟩:=look
   by_cases he:s2.empty=true
   ·refine⟨n1,true,s2,?_,⟨k2,k3,k4,fun _=>rfl,[],[],by rw[k5];simp,by rw[k6];simp,rfl,by simp;omega,by simp,by simp⟩⟩
    simp only[k1,if_pos he]
   have he:s2.empty=false:=by simpa using he
   have hle:=tY k4 he
   have UF:eb t F 1 i c.length s1 false s2:=⟨k2,k3,k4,fun h=>(by rw[he]at h;cases h),[],[],by rw[k5];simp,by rw[k6];simp,rfl,by simp;omega,by simp,by simp⟩
   by_cases cu:re.neg=true
   ·cases r with
    |some d =>
     refine⟨n1,false,s2,?_,UF⟩
     simp only[k1,he,W2,if_false,if_pos cu]
    |none =>
     obtain⟨n2,b,s',j1,j2⟩:=go next i c s2 (WW _) e7 H.ak rfl k5 k6 k2 hle he (hn.mono (WW _) k2)
     refine⟨max n1 n2,b,s',?_,j2⟩
     have hm:=rM (rec:=dA t F n1) (rec':=dA t F (max n1 n2)) (fun m task st r hr=>dY (X6 n1 n2) hr) k1
     simp only[hm,he,W2,if_false,if_pos cu]
     exact dY (X2 n1 n2) j1
   ·cases r with
    |none =>
     refine⟨n1,false,s2,?_,UF⟩
     simp only[k1,he,W2,if_false,if_neg cu]
    |some d =>
     obtain⟨q1,q2⟩:=k7 d rfl
     obtain⟨n2,b,s',j1,j2⟩:=go next i d s2 (WW _) e7 q1 q2 k5 k6 k2 hle he (hn.mono (WW _) k2)
     refine⟨max n1 n2,b,s',?_,j2⟩
     have hm:=rM (rec:=dA t F n1) (rec':=dA t F (max n1 n2)) (fun m task st r hr=>dY (X6 n1 n2) hr) k1
     simp only[hm,he,W2,if_false,if_neg cu]
     exact dY (X2 n1 n2) j1
 simp only[if_neg o7]
 by_cases o9:re.op=9
 ·simp only[if_pos o9]
  cases hk:re.kids with
  |nil=>exact absurd hk (QN (by omega))
  |cons kid l =>
   have zc:kid.every ig=true:=h2 kid (by rw[hk];simp)
   obtain⟨n1,r,s2,k1,k2,k3,k4,k5,k6,k7,k8,_⟩:=ox (H.le (sl':=0) (by omega)) (fst kid .nil i s1 zc trivial (WW _) (H.le (by omega))) rfl
   by_cases he:s2.empty=true
   ·refine⟨n1,true,s2,?_,⟨k2,k3,k4,fun _=>rfl,[],[],by rw[k5];simp,by rw[k6];simp,rfl,by simp;omega,by simp,by simp⟩⟩
    simp only[k1,if_pos he]
   have he:s2.empty=false:=by simpa using he
   have hle:=tY k4 he
   cases r with
   |none =>
    refine⟨n1,false,s2,?_,⟨k2,k3,k4,fun h=>(by rw[he]at h;cases h),[],[],by rw[k5];simp,by rw[k6];simp,rfl,by simp;omega,by simp,by simp⟩⟩
    simp only[k1,he,W2,if_false]
   |some p =>
    obtain⟨e,d⟩:=p
    obtain⟨q1,q2,q3,q4⟩:=k8 e d rfl
    obtain⟨n2,b,s',j1,j2⟩:=go next e d s2 q1 q2 q3 q4 k5 k6 k2 hle he (hn.mono q1 k2)
    refine⟨max n1 n2,b,s',?_,j2⟩
    have hm:=fQ (rec:=dA t F n1) (rec':=dA t F (max n1 n2)) (fun m task st r hr=>dY (X6 n1 n2) hr) k1
    simp only[hm,he,W2,if_false]
    exact dY (X2 n1 n2) j1
 simp only[if_neg o9]
 by_cases oS:re.op=10
 ·simp only[if_pos oS]
  have gu:=Ws oS
  match hk:re.kids with
  |[]=>rw[hk]at gu;simp at gu
  |[_]=>rw[hk]at gu;simp at gu
  |yes::Sv::l =>
   have hy:∀k,k=yes∨k=Sv→k.every ig=true:=fun k h=>h2 k (by rw[hk];rcases h with rfl|rfl <;> simp)
   refine here _ ⟨by omega,hy _ ?_,fun h=>by omega,fun h=>by omega,fun h=>by omega,fun h=>by omega,hn⟩
   split
   ·exact .inl rfl
   ·exact .inr rfl
 simp only[if_neg oS]
 by_cases rA:re.op=11
 ·simp only[if_pos rA]
  by_cases hc:bO re.n t i=true
  ·simp only[if_pos hc];exact here next hn
  ·simp only[if_neg hc];exact⟨0,false,s1,rfl,no⟩
 simp only[if_neg rA]
 exact here next hn
theorem KX {t:List Int}{F:Int}{i:Int}{c:ar}{st:aQ} (aW:st.steps≤F) (IH:∀ah task s,st.steps<s.steps→task.ok t s.steps→jH t F task.pos task.ak task.fU s→Ends t F ah task s) {ah:Int}{re:Re}{k:Int}{next:Goal}
  (hsh:re.every ig=true) (o4:re.op=4) (hk0:0≤k) (jT:k≤st.steps) (hn:il t i st.steps next) (hF:F≤1200000000000) (H:jH t F i c 0 st) (hm:re.mode≠2) :
  ∃n b s',jA F (dA t F n) ah re k next i c st=some (b,s')∧eb t F 0 i c.length st b s'∧st.steps<s'.steps:=by
 have e7:=H.i1
 have ij:=H.s0
 obtain⟨h1,h2⟩:=(Re.ck re).1 hsh
 obtain⟨QN,_⟩:=of_decide_eq_true h1
 have db:(st.step F).steps=st.steps+1:=rfl
 unfold jA
 simp only[if_neg hm]
 simp only[if_neg (show ¬(st.steps<0∨10000000000000<st.steps) by omega)]
 by_cases he:(st.step F).empty=true
 ·simp only[if_pos he]
  exact⟨0,true,st.step F,rfl,.out aW he H.empty,by rw[db];omega⟩
 simp only[if_neg he]
 have he:(st.step F).empty=false:=by simpa using he
 have Qh:st.steps+1≤F:=by
  simp only[aQ.step,H.empty,Xj]at he
  have:=of_decide_eq_false he
  omega
 generalize gy:st.step F=s1 at *
 have e1:s1.ends=st.ends:=by rw[← gy];rfl
 have e2:s1.ak=st.ak:=by rw[← gy];rfl
 have H1:∀sl,sl≤1→jH t F i c sl s1:=fun sl tg=>H.at (WW _) e7 H.ak e1 e2 (by omega) (by omega) he (by omega)
 cases hk:re.kids with
 |nil=>exact absurd hk (QN (by omega))
 |cons kid l =>
  have zc:kid.every ig=true:=h2 kid (by rw[hk];simp)
  have fY:il t i s1.steps next:=hn.mono (WW _) (by omega)
  have ss:∀s:aQ,s1.steps≤s.steps→il t i s.steps (.mk 0 kid 0 0 (.mk 2 re k i next)):=fun s hs =>
   ⟨by omega,zc,fun h=>by omega,fun h=>by omega,fun h=>by omega,fun h=>by omega,by omega,hsh,fun _=>o4,fun h=>by omega,fun _=>⟨hk0,by omega⟩,fun h=>by omega,fY.mono (WW _) hs⟩
  have once:∀s,s1.steps≤s.steps→jH t F i c 0 s→∃n b s',dA t F n ah (.run (.mk 0 kid 0 0 (.mk 2 re k i next)) i c) s=some (b,s')∧eb t F 0 i c.length s b s':=fun s hs Hs=>by
   obtain⟨n,b,s',q1,q2,_⟩:=IH ah (.run (.mk 0 kid 0 0 (.mk 2 re k i next)) i c) s (by omega) (ss s hs) Hs
   exact⟨n,b,s',q1,q2⟩
  have OT:∀s,s1.steps≤s.steps→jH t F i c 1 s→∃n b s',dA t F n ah (.run next i c) s=some (b,s')∧eb t F 1 i c.length s b s':=fun s hs Hs=>by
   have tg:=fZ next
   obtain⟨n,b,s',q1,q2,_⟩:=IH ah (.run next i c) s (by omega) (fY.mono (WW _) hs) (Hs.le tg.2)
   exact⟨n,b,s',q1,q2.fi tg.2 (WW _)⟩
  have fin:∀{b s'},eb t F 1 i c.length s1 b s'→eb t F 0 i c.length st b s'∧st.steps<s'.steps:=fun {b s'} h=>⟨by have:=h.same (st:=st) (d:=1) e1 e2 (by omega) (by omega) (WW _);simpa using this,by have:=h.s0;omega⟩
  simp only
  by_cases c2:k<re.mn
  ·simp only[if_pos c2]
   obtain⟨n,b,s',q1,q2⟩:=once s1 (WW _) (H1 0 (by omega))
   exact⟨n,b,s',q1,fin (q2.fi (by omega) (WW _))⟩
  simp only[if_neg c2]
  have no:∀s,jH t F i c 0 s→eb t F 0 i c.length s false s:=fun s Hs=>.no Hs.s1 Hs.empty (WW _)
  by_cases m1:re.mode=1
  ·simp only[if_pos m1]
   obtain⟨n1,b1,s2,q1,q2⟩:=OT s1 (WW _) (H1 1 (WW _))
   cases b1 with
   |true=>exact⟨n1,true,s2,by rw[q1];rfl,fin q2⟩
   |false =>
    have H2:=(H1 1 (WW _)).next q2 (sl':=0) (by omega)
    by_cases hM:re.mx=-1∨k<re.mx
    ·simp only[if_pos hM]
     obtain⟨n2,b2,s3,j1,j2⟩:=once s2 (by have:=q2.s0;omega) H2
     refine⟨max n1 n2,b2,s3,?_,fin (by have:=q2.trans j2;simpa using this)⟩
     rw[dY (X6 n1 n2) q1]
     exact dY (X2 n1 n2) j1
    ·simp only[if_neg hM]
     exact⟨n1,false,s2,by rw[q1];rfl,fin q2⟩
  ·simp only[if_neg m1]
   by_cases hM:re.mx=-1∨k<re.mx
   ·simp only[if_pos hM]
    obtain⟨n1,b1,s2,q1,q2⟩:=once s1 (WW _) (H1 0 (by omega))
    cases b1 with
    |true=>exact⟨n1,true,s2,by rw[q1];rfl,fin (q2.fi (by omega) (WW _))⟩
    |false =>
     have H2:=(H1 1 (WW _)).next q2 (sl':=1) (by omega)
     obtain⟨n2,b2,s3,j1,j2⟩:=OT s2 (by have:=q2.s0;omega) H2
     refine⟨max n1 n2,b2,s3,?_,fin (by have:=q2.trans j2;simpa using this)⟩
     rw[dY (X6 n1 n2) q1]
     exact dY (X2 n1 n2) j1
   ·simp only[if_neg hM]
    obtain⟨n1,b1,s2,q1,q2⟩:=OT s1 (WW _) (H1 1 (WW _))
    exact⟨n1,b1,s2,q1,fin q2⟩
theorem I9 {t:List Int}{F:Int} (hF:F≤1200000000000):∀(N r:Nat) (ah:Int) (task:Task) (st:aQ),(F+1-st.steps).toNat≤N→task.u7≤r→task.ok t st.steps→jH t F task.pos task.ak task.fU st→Ends t F ah task st:=by
 intro N
 induction N with
 |zero=>intro r ah task st hN _ _ H;have:=H.s1;omega
 |succ N V1 =>
  intro r
  -- after a step
  have Jk:∀(st:aQ),(F+1-st.steps).toNat≤N+1→st.steps≤F→∀ah task s,st.steps<s.steps→task.ok t s.steps→jH t F task.pos task.ak task.fU s→Ends t F ah task s :=
   fun st hN hs ah task s aS np H=>V1 task.u7 ah task s (by omega) (W4 _) np H
  induction r with
  |zero =>
   intro ah task st hN hr np H
   cases task with
   |run g i c =>
    cases g with
    |nil =>
     have hi0:0≤i:=H.i0
     have e7:i≤t.length:=H.i1
     have kT:=H.ends
     have gy:=H.s1
     have tg:(Task.run Goal.nil i c).fU=1:=rfl
     rw[tg]at kT
     refine⟨1,decide (0≤ah)&&decide (ah≤(st.ends.length:Int)+1),{ st with ends:=st.ends++[i],ak:=st.ak++[c] },?_,?_,fun h=>h.elim⟩
     ·show bI t F (dA t F 0) ah (.run .nil i c) st=_
      simp only[bI]
      rw[if_neg (by omega),if_pos ⟨by omega,H.same⟩]
     ·refine⟨WW _,by show st.steps≤F+1;omega,?_,fun h=>?_,[i],[c],rfl,rfl,rfl,?_,fun e he=>?_,fun d hd=>?_⟩
      ·show st.empty=decide (F<st.steps)
       rw[H.empty,decide_eq_false (by omega)]
      ·have h:st.empty=true:=h
       rw[H.empty]at h;cases h
      ·rw[tg];show ((1:Nat):Int)≤st.steps-st.steps+1;omega
      ·rw[List.mem_singleton.1 he];exact⟨WW _,e7⟩
      ·rw[List.mem_singleton.1 hd];exact⟨H.ak,rfl⟩
    |mk kind re k cT next =>
     exfalso
     simp only[Task.u7,ts]at hr
     split at hr
     ·split at hr <;> omega
     ·split at hr
      ·omega
      ·split at hr <;> omega
   |rep g i c =>
    cases g with
    |nil=>exact np.elim
    |mk kind re k cT next =>
     exfalso
     simp only[Task.u7]at hr
     split at hr <;> omega
   |node g i c=>simp [Task.u7]at hr
  |succ r ihr =>
   intro ah task st hN hr np H
   have hi0:=H.i0
   have e7:=H.i1
   have ij:=H.s0
   have gy:=H.s1
   cases task with
   |run g i c =>
    have hi0:0≤i:=hi0
    have e7:i≤t.length:=e7
    cases g with
    |nil=>exact ihr ah _ st hN (Nat.zero_le _) np H
    |mk kind re k cT next =>
     obtain⟨g0,g1,g2,g3,g4,g5,g6⟩:=np
     by_cases k1:kind=1
     ·have NV:Task.u7 (.rep (.mk kind re k cT next) i c)≤r:=by
       simp only[Task.u7,ts,if_pos k1]at hr ⊢
       split <;> rename_i hm <;> simp only[hm,if_true,if_false]at hr <;> omega
      refine Ends.via (task':=.rep (.mk kind re k cT next) i c) (fun rec=>?_) (ihr ah _ st hN NV ⟨g1,g2 (.inl k1),(g3 k1).1,(g3 k1).2,g6⟩ ⟨hi0,e7,H.ak,H.empty,ij,gy,?_,H.same⟩) ?_ (WW _) rfl (fun h=>h.2)
      ·simp only[bI];rw[if_neg (by omega),if_pos k1]
      ·have:=H.ends;have:=(fZ (.mk kind re k cT next)).1;simp only[Task.fU]at *;omega
      ·simp [Task.fU];exact(fZ _).1
     by_cases k2:kind=2
     ·have tg:eo (.mk kind re k cT next)=0:=by rw[eo,if_neg (by omega)]
      have kT:=H.ends
      simp only[Task.fU,tg]at kT
      by_cases c1:re.mn≤k∧i=cT
      ·refine⟨1,false,st,?_,.no gy H.empty (by simp only[Task.fU,tg];omega),fun h=>absurd h.1 k1⟩
       show bI t F (dA t F 0) ah _ st=_
       simp only[bI]
       rw[if_neg (by omega),if_neg k1,if_pos k2,if_pos c1]
      ·have hk:=g4 k2
       refine Ends.via (task':=.run (.mk 1 re (k+1) 0 next) i c) (fun rec=>?_) (ihr ah _ st hN ?_ ⟨by omega,g1,fun _=>g2 (.inr k2),fun _=>⟨by omega,by omega⟩,fun h=>by omega,fun h=>by omega,g6⟩ ⟨hi0,e7,H.ak,H.empty,ij,gy,?_,H.same⟩) ?_ (WW _) rfl (fun h=>absurd h.1 k1)
       ·simp only[bI];rw[if_neg (by omega),if_neg k1,if_pos k2,if_neg c1,if_neg (by omega)]
       ·simp only[Task.u7,ts]at hr ⊢
        rw[if_neg k1,if_pos k2]at hr
        simp only[if_true]
        split <;> omega
       ·simp [Task.fU,eo];omega
       ·simp only[Task.fU,tg];simp [eo]
     by_cases k3:kind=3
     ·have hf:=g5 k3
      have tg:eo (.mk kind re k cT next)=eo next:=by rw[eo,if_pos (.inl k3)]
      obtain⟨w1,w2⟩:=cJ.with (n:=re.n) (H.ak:cJ t c) hf.1 hf.2 e7
      have cK:c.length≤1000000000:=(H.ak:cJ t c).1
      refine Ends.via (task':=.run next i (ku c re.n cT i)) (fun rec=>?_) (ihr ah _ st hN ?_ g6 ⟨hi0,e7,w1,H.empty,ij,gy,?_,H.same⟩) ?_ (WW _) w2 (fun h=>absurd h.1 k1)
      ·simp only[bI];rw[if_neg (by omega),if_neg k1,if_neg k2,if_pos k3,if_neg (by omega)]
      ·simp only[Task.u7]at hr ⊢
       rw[ts,if_neg k1,if_neg k2,if_pos (.inl k3)]at hr
       omega
      ·have:=H.ends;simp only[Task.fU,tg]at this ⊢;exact this
      ·simp only[Task.fU,tg];exact WW _
     by_cases k4:kind=4
     ·have tg:eo (.mk kind re k cT next)=eo next:=by rw[eo,if_pos (.inr k4)]
      by_cases c1:i=cT
      ·refine Ends.via (task':=.run next i c) (fun rec=>?_) (ihr ah _ st hN ?_ g6 ⟨hi0,e7,H.ak,H.empty,ij,gy,?_,H.same⟩) ?_ (WW _) rfl (fun h=>absurd h.1 k1)
       ·simp only[bI];rw[if_neg (by omega),if_neg k1,if_neg k2,if_neg k3,if_pos k4,if_pos c1]
       ·simp only[Task.u7]at hr ⊢
        rw[ts,if_neg k1,if_neg k2,if_pos (.inr k4)]at hr
        omega
       ·have:=H.ends;simp only[Task.fU,tg]at this ⊢;exact this
       ·simp only[Task.fU,tg];exact WW _
      ·refine⟨1,false,st,?_,.no gy H.empty (fZ _).1,fun h=>absurd h.1 k1⟩
       show bI t F (dA t F 0) ah _ st=_
       simp only[bI]
       rw[if_neg (by omega),if_neg k1,if_neg k2,if_neg k3,if_pos k4,if_neg c1]
     have tg:eo (.mk kind re k cT next)=0:=by rw[eo,if_neg (by omega)]
     refine Ends.via (task':=.node (.mk kind re k cT next) i c) (fun rec=>?_) (ihr ah _ st hN ?_ ⟨g1,g6⟩ ⟨hi0,e7,H.ak,H.empty,ij,gy,?_,H.same⟩) ?_ (WW _) rfl (fun h=>absurd h.1 k1)
     ·simp only[bI];rw[if_neg (by omega),if_neg k1,if_neg k2,if_neg k3,if_neg k4]
     ·simp only[Task.u7]at hr ⊢
      rw[ts,if_neg k1,if_neg k2,if_neg (by omega)]at hr
      omega
     ·have:=H.ends;simp only[Task.fU,tg]at this ⊢;exact this
     ·simp only[Task.fU,tg];exact WW _
   |rep g i c =>
    have hi0:0≤i:=hi0
    have e7:i≤t.length:=e7
    cases g with
    |nil=>exact np.elim
    |mk kind re k cT next =>
     obtain⟨g1,g2,g3,g4,g5⟩:=np
     have kT:(st.ends.length:Int)+0≤st.steps:=H.ends
     by_cases hm:re.mode=2
     ·have hf:=ox (t:=t) (F:=F) (g:=.mk 1 (re.cq 0) 0 0 .nil) (i:=i) (c:=c) (sl:=0) (st:=st) ⟨hi0,e7,H.ak,H.empty,ij,gy,kT,H.same⟩
       (ihr 1 _ _ (by simpa using hN) (by
        simp only[Task.u7,ts]at hr ⊢
        simp only[hm,if_true]at hr
        have gr:¬(re.cq 0).mode=2:=by simp [Re.cq,Re.mode]
        simp only[if_true]
        rw[if_neg gr];omega) ⟨by omega,zf g1 0,fun _=>g2,fun _=>⟨WW _,ij⟩,fun h=>by omega,fun h=>by omega,trivial⟩ ⟨hi0,e7,H.ak,rfl,ij,gy,(by simp [Task.fU,eo];exact ij),rfl⟩) (by simp [eo])
      obtain⟨n1,r1,s1,j1,j2,j3,j4,j5,j6,j7,j8,j9⟩:=hf
      have aS:st.steps<s1.steps:=j9 ⟨rfl,by simp [Re.cq,Re.mode]⟩
      have Gk:¬(Task.rep (.mk kind re k cT next) i c).xD:=fun h=>h hm
      have eX:∀n r',jA F (dA t F n) ah re k next i c st=r'→dA t F (n+1) ah (.rep (.mk kind re k cT next) i c) st=r':=fun n r' h=>by
       show bI t F (dA t F n) ah _ st=_
       simp only[bI];rw[if_neg (by omega)];exact h
      cases r1 with
      |none =>
       refine⟨n1+1,s1.empty,s1,eX n1 _ ?_,⟨j2,j3,j4,fun h=>h,[],[],by rw[j5];simp,by rw[j6];simp,rfl,by simp [Task.fU];omega,by simp,by simp⟩,fun h=>(Gk h).elim⟩
       unfold jA
       rw[if_pos hm,j1]
      |some p =>
       obtain⟨e,d⟩:=p
       obtain⟨q1,q2,q3,q4⟩:=j8 e d rfl
       have he:s1.empty=false:=by
        cases hx:s1.empty with
        |false=>rfl
        |true=>have:=j7 hx;cases this
       have hle:=tY j4 he
       have tg:=fZ next
       obtain⟨n2,b,s',l1,l2,_⟩:=Jk st hN gy ah (.run next e d) s1 aS (g5.mono q1 j2) ⟨Int.le_trans hi0 q1,q2,q3,he,by omega,hle,by rw[j5];simp only[Task.fU];omega,by rw[j5,j6];exact H.same⟩
       have l2:eb t F (eo next) e d.length s1 b s':=l2
       rw[q4]at l2
       have l3:=(l2.fi (sl':=1) tg.2 (WW _)).same (st:=st) (d:=1) (i:=i) j5 j6 (by omega) (by omega) q1
       refine⟨max n1 n2+1,b,s',eX _ _ ?_,(show eb t F 0 i c.length st b s' by simpa using l3),fun h=>(Gk h).elim⟩
       unfold jA
       have hmn:=fQ (rec:=dA t F n1) (rec':=dA t F (max n1 n2)) (fun m task st r hr=>dY (X6 n1 n2) hr) j1
       rw[if_pos hm,hmn]
       exact dY (X2 n1 n2) l1
     ·obtain⟨n,b,s',q1,q2,q3⟩:=KX gy (Jk st hN gy) (ah:=ah) g1 g2 g3 g4 g5 hF (⟨hi0,e7,H.ak,H.empty,ij,gy,kT,H.same⟩:jH t F i c 0 st) hm
      refine⟨n+1,b,s',?_,q2,fun _=>q3⟩
      show bI t F (dA t F n) ah _ st=_
      simp only[bI];rw[if_neg (by omega)];exact q1
   |node g i c =>
    have hi0:0≤i:=hi0
    have e7:i≤t.length:=e7
    cases g with
    |nil=>exact np.elim
    |mk kind re k cT next =>
     obtain⟨g1,g6⟩:=np
     have kT:(st.ends.length:Int)+0≤st.steps:=H.ends
     obtain⟨h1,h2⟩:=(Re.ck re).1 g1
     obtain⟨_,_,WH,WO⟩:=of_decide_eq_true h1
     have cK:c.length≤1000000000:=(H.ak:cJ t c).1
     by_cases o4:re.op=4
     ·refine Ends.via (task':=.rep (.mk 1 re 0 0 next) i c) (fun rec=>?_) (ihr ah _ st hN ?_ ⟨g1,o4,WW _,ij,g6⟩ ⟨hi0,e7,H.ak,H.empty,ij,gy,kT,H.same⟩) (WW _) (WW _) rfl (fun h=>absurd o4 h)
      ·simp only[bI];rw[if_neg (by omega),if_pos o4]
      ·simp only[Task.u7]at hr ⊢
       split <;> omega
     ·have db:(st.step F).steps=st.steps+1:=rfl
      have eX:∀n,dA t F (n+1) ah (.node (.mk kind re k cT next) i c) st=if (st.step F).empty then some (true,st.step F) else cQ t (dA t F n) ah re next i c (st.step F):=fun n=>by
       show bI t F (dA t F n) ah _ st=_
       simp only[bI]
       rw[if_neg (by omega),if_neg o4,if_neg (by omega),if_neg (by omega)]
      by_cases he:(st.step F).empty=true
      ·refine⟨1,true,st.step F,?_,.out gy he H.empty,fun _=>by rw[db];omega⟩
       rw[eX 0,if_pos he]
      ·have lH:(st.step F).empty=false:=by simpa using he
       have Qh:st.steps+1≤F:=by
        simp only[aQ.step,H.empty,Xj]at lH
        have:=of_decide_eq_false lH
        omega
       have H1:jH t F i c 1 (st.step F):=⟨hi0,e7,H.ak,lH,by rw[db];omega,by rw[db];omega,by rw[db];show (st.ends.length:Int)+1≤st.steps+1;omega,H.same⟩
       obtain⟨n,b,s',q1,q2⟩:=It (fun ah task s hs Sr H'=>Jk st hN gy ah task s (by rw[db]at hs;omega) Sr H') (ah:=ah) g1 (g6.mono (WW _) (by rw[db];omega)) H1
       refine⟨n+1,b,s',?_,(show eb t F 0 i c.length st b s' by simpa using q2.step),fun _=>by have:=q2.s0;rw[db]at this;omega⟩
       rw[eX n,if_neg he];exact q1
end Go.Proofs.YtmihcpdhcillaaaGreat
