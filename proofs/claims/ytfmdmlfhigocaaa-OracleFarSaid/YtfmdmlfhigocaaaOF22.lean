/- A part of the proof (G15 G16 G17 F6 F7). -/
import Derived.Test.YtfmdmlfhigocaaaOF16
import Derived.Test.YtfmdmlfhigocaaaOF21
set_option linter.unusedSimpArgs false
set_option linter.unusedVariables false
set_option maxRecDepth 100000
set_option maxHeartbeats 80000000
namespace Go.Proofs.Ytfmdmlfhigocaaa
open Go.VL Go.Proofs.Try
theorem dx.same {t:List Int}{F sl i e d:Int}{nc:Nat}{st s1 st':bq}{b:Bool} (h:dx t F sl e nc s1 b st') (he:s1.ends=st.ends) (hc:s1.ai=st.ai) (hs:st.steps+d<=s1.steps) (hd:0<=d) (hi:i<=e):dx t F (sl-d) i nc st b st':=by
 obtain⟨new,sZ,h1,h2,h3,h4,h5,h6⟩:=h.more
 exact⟨by have:=h.s0;omega,h.s1,h.empty,h.full,new,sZ,by rw[h1,he],by rw[h2,hc],h3,by omega,fun x hx=>⟨by have:=h5 x hx;omega,(h5 x hx).2⟩,h6⟩
theorem kd.next {t:List Int}{F i:Int}{c:aE}{sl Xb sl':Int}{st s1:bq} (H:kd t F i c sl st) (h:dx t F Xb i c.length st false s1) (hs:Xb+sl'<=sl):kd t F i c sl' s1:=by
 have he:s1.empty=false:=by
  cases hx:s1.empty with
  |false=>rfl
  |true=>have:=h.full hx;cases this
 have hd:=h.empty
 rw[he]at hd
 have hle:s1.steps<=F:=by
  have:=of_decide_eq_false hd.symm
  omega
 obtain⟨new,sZ,h1,h2,h3,h4,h5,h6⟩:=h.more
 refine⟨H.i0,H.i1,H.ai,he,by have:=H.s0;have:=h.s0;omega,hle,?_,?_⟩
 ·have:=H.ends
  rw[h1,List.length_append,Int.natCast_add];omega
 ·rw[h1,h2,List.length_append,List.length_append,h3,H.same]
theorem Ends.via {t:List Int}{F most:Int}{task task':Task}{st:bq} (heq:∀rec,cn t F rec most task st=rec most task' st) (h:Ends t F most task' st) (h1:task'.fJ<=task.fJ) (h2:task.pos<=task'.pos) (h3:task'.ai.length=task.ai.length)
  (h4:task.yN->task'.yN):Ends t F most task st:=by
 obtain⟨n,b,st',k1,k2,k3⟩:=h
 exact⟨n+1,b,st',by show cn t F (fG t F n) most task st=_;rw[heq];exact k1,(h3 ▸ k2.Gt h1 h2),fun hs=>k3 (h4 hs)⟩
theorem E8 {t:List Int}{F most:Int}{i:Int}{c:aE}{next:Goal}{s0:Int}:∀(l:List Re) (st:bq),(∀k∈l,∀s:bq,s0<=s.steps->kd t F i c 0 s->Ends t F most (.run (.mk 0 k 0 0 next) i c) s)->s0<=st.steps->kd t F i c 0 st ->
  ∃n b s',yf (fun k st=>fG t F n most (.run (.mk 0 k 0 0 next) i c) st) l st=some (b,s')/\dx t F 0 i c.length st b s'
 |[],st,_,_,H=>⟨0,false,st,rfl,.no H.s1 H.empty (Int.le_refl _)⟩
 |k::l,st,h,hs,H=>by
  obtain⟨n1,b1,s1,k1,k2,_⟩:=h k (by simp) st hs H
  have k2:dx t F 0 i c.length st b1 s1:=k2
  cases b1 with
  |true =>
   refine⟨n1,true,s1,?_,k2⟩
   simp only[yf,k1,FJ]
  |false =>
   have H1:=H.next k2 (sl':=0) (by omega)
   obtain⟨n2,b2,s2,j1,j2⟩:=E8 l s1 (fun k hk=>h k (by simp [hk])) (by have:=k2.s0;omega) H1
   refine⟨max n1 n2,b2,s2,?_,k2.trans j2⟩
   simp only[yf,dy (Nat.le_max_left n1 n2) k1,FJ]
   exact vI (fun k st r hr=>dy (Nat.le_max_right n1 n2) hr) l s1 _ j1
theorem wK {t:List Int}{F:Int}{g:Goal}{c:aE}{s0:Int} (uD:dF g=0) (hc:gR t c):∀(m:Nat) (st:bq),(m:Int)<=t.length+1->(∀(k:Nat) (s:bq),k<m->s0<=s.steps->kd t F k c 0 s->Ends t F 1 (.run g k c) ⟨s.steps,false,[],[]⟩)->s0<=st.steps ->
  0<=st.steps->st.steps<=F+1->st.empty=decide (F<st.steps)->(st.ends.length:Int)<=st.steps->st.ai.length=st.ends.length ->
  ∃n r s',iH (fun k st=>ff (fG t F n) g k c st) m st=some (r,s')/\st.steps<=s'.steps/\s'.steps<=F+1/\s'.empty=decide (F<s'.steps)/\s'.ends=st.ends/\s'.ai=st.ai/\(∀d,r=some d->gR t d/\d.length=c.length)
 |0,st,_,_,_,h0,h1,he,hl,hs=>⟨0,none,st,rfl,Int.le_refl _,h1,he,rfl,rfl,fun d h=>(by cases h)⟩
 |m+1,st,hm,h,pk,h0,h1,he,hl,hs=>by
  by_cases hx:st.empty=true
  ·exact⟨0,none,st,by simp only[iH,if_pos hx],Int.le_refl _,h1,he,rfl,rfl,fun d h=>(by cases h)⟩
  have hx:st.empty=false:=by simpa using hx
  have hle:st.steps<=F:=by
   rw[hx]at he
   have:=of_decide_eq_false he.symm
   omega
  have H:kd t F (m:Nat) c 0 st:=⟨by omega,by omega,hc,hx,h0,hle,by omega,hs⟩
  obtain⟨n1,r1,s1,k1,k2,k3,k4,k5,k6,k7,k8,_⟩:=n5 H (h m st (by omega) pk H) uD
  cases r1 with
  |some p =>
   obtain⟨e,d⟩:=p
   refine⟨n1,some d,s1,?_,k2,k3,k4,k5,k6,fun d' h=>?_⟩
   ·simp only[iH,hx,Bool.false_eq_true,if_false,k1]
   ·cases h
    have:=k8 e d rfl
    exact⟨this.2.2.1,this.2.2.2⟩
  |none =>
   obtain⟨n2,r2,s2,j1,j2,j3,j4,j5,j6,j7⟩:=wK uD hc m s1 (by omega) (fun k s hk=>h k s (by omega)) (by omega) (by omega) k3 k4 (by rw[k5];omega) (by rw[k5,k6];exact hs)
   refine⟨max n1 n2,r2,s2,?_,by omega,j3,j4,by rw[j5,k5],by rw[j6,k6],j7⟩
   simp only[iH,hx,Bool.false_eq_true,if_false]
   rw[fI (fun m task st r hr=>dy (Nat.le_max_left n1 n2) hr) k1]
   exact nZ (fun k st r hr=>fI (fun m task st r hr=>dy (Nat.le_max_right n1 n2) hr) hr) m s1 _ j1
theorem gR.with {t:List Int}{c:aE}{n eA to:Int} (h:gR t c) (h0:0<=eA) (h1:eA<=to) (h2:to<=t.length):gR t (nM c n eA to)/\(nM c n eA to).length=c.length:=by
 unfold nM
 split
 ·refine⟨⟨by simpa using h.1,fun p hp=>?_⟩,by simp⟩
  rcases List.mem_or_eq_of_mem_set hp with hp|rfl
  ·exact h.2 p hp
  ·exact .inr ⟨h0,h1,h2⟩
 ·exact⟨h,rfl⟩
theorem Kf {t:List Int}{c:aE} (h:gR t c) (n:Int):LA t (ck c n):=by
 unfold ck
 split
 ·exact .inl rfl
 ·rename_i hn
  have az:(n-1).toNat<c.length:=by omega
  rw[List.getD,List.getElem?_eq_getElem az]
  exact h.2 _ (List.getElem_mem az)
theorem Ac {re:Re} (h:re.every ij=true) (m:Int):(re.eo m).every ij=true:=by
 rw[Re.aS]at h ⊢
 exact⟨h.1,h.2⟩
theorem Hv {t:List Int}{i s:Int}{next:Goal} (hn:ig t i s next):∀l:List Re,(∀k∈l,k.every ij=true)->ig t i s (ov l next)
 |[],_=>hn
 |k::l,h=>⟨by omega,h k (by simp),fun h=>by omega,fun h=>by omega,fun h=>by omega,fun h=>by omega,Hv hn l (fun x hx=>h x (by simp [hx]))⟩
theorem kd.le {t:List Int}{F i:Int}{c:aE}{sl sl':Int}{s:bq} (H:kd t F i c sl s) (h:sl'<=sl):kd t F i c sl' s :=
 ⟨H.i0,H.i1,H.ai,H.empty,H.s0,H.s1,by have:=H.ends;omega,H.same⟩
theorem kd.at {t:List Int}{F i e:Int}{c d:aE}{sl sl':Int}{s s2:bq} (H:kd t F i c sl s) (Xd:i<=e) (YM:e<=t.length) (hd:gR t d) (h1:s2.ends=s.ends) (h2:s2.ai=s.ai) (h3:s.steps<=s2.steps) (h4:s2.steps<=F) (h5:s2.empty=false) (h6:sl'<=sl+(s2.steps-s.steps)):kd t F e d sl' s2 :=
 ⟨by have:=H.i0;omega,YM,hd,h5,by have:=H.s0;omega,h4,by have:=H.ends;rw[h1];omega,by rw[h1,h2];exact H.same⟩
theorem vQ {F:Int}{s:bq} (h:s.empty=decide (F<s.steps)) (he:s.empty=false):s.steps<=F:=by
 rw[he]at h
 have:=of_decide_eq_false h.symm
 omega
theorem IS {t:List Int}{F:Int}{i:Int}{c:aE}{s1:bq} (IH:∀most task s,s1.steps<=s.steps->task.ok t s.steps->kd t F task.pos task.ai task.fJ s->Ends t F most task s) {most:Int}{re:Re}{next:Goal}
  (hsh:re.every ij=true) (hn:ig t i s1.steps next) (H:kd t F i c 1 s1) :
  ∃n b s',eE t (fG t F n) most re next i c s1=some (b,s')/\dx t F 1 i c.length s1 b s':=by
 obtain⟨h1,h2⟩:=(Re.aS re).1 hsh
 obtain⟨SJ,Yu,_,_⟩:=of_decide_eq_true h1
 have hi0:=H.i0
 have mE:=H.i1
 -- run YY on at a goal
 have go:∀(g:Goal) (e:Int) (d:aE) (s2:bq),i<=e->e<=t.length->gR t d->d.length=c.length->s2.ends=s1.ends->s2.ai=s1.ai->s1.steps<=s2.steps->s2.steps<=F->s2.empty=false->ig t e s2.steps g ->
   ∃n b s',fG t F n most (.run g e d) s2=some (b,s')/\dx t F 1 i c.length s1 b s':=by
  intro g e d s2 a1 a2 a3 a4 a5 a6 a7 a8 a9 hg
  have hs:=fO g
  obtain⟨n,b,s',k1,k2,_⟩:=IH most (.run g e d) s2 a7 hg (H.at (sl':=dF g) a1 a2 a3 a5 a6 a7 a8 a9 (by omega))
  have k2:dx t F (dF g) e d.length s2 b s':=k2
  rw[a4]at k2
  have k3:=(k2.Gt (sl':=1) hs.2 (Int.le_refl _)).same (st:=s1) (d:=0) (i:=i) a5 a6 (by omega) (Int.le_refl _) a1
  rw[Int.sub_zero]at k3
  exact⟨n,b,s',k1,k3⟩
 have here:∀g,ig t i s1.steps g->∃n b s',fG t F n most (.run g i c) s1=some (b,s')/\dx t F 1 i c.length s1 b s':=fun g hg=>go g i c s1 (Int.le_refl _) mE H.ai rfl rfl rfl (Int.le_refl _) H.s1 H.empty hg
 have no:dx t F 1 i c.length s1 false s1:=.no H.s1 H.empty (by omega)
 -- V0 first result of a kid
 have fst:∀(kid:Re) (tail:Goal) (k:Int) (s:bq),kid.every ij=true->ig t k s.steps tail->s1.steps<=s.steps->kd t F k c 0 s->Ends t F 1 (.run (.mk 0 kid 0 0 tail) k c) ⟨s.steps,false,[],[]⟩:=by
  intro kid tail k s b1 b2 b3 Hs
  refine IH 1 _ _ b3 ⟨by omega,b1,fun h=>by omega,fun h=>by omega,fun h=>by omega,fun h=>by omega,b2⟩ ⟨Hs.i0,Hs.i1,Hs.ai,rfl,Hs.s0,Hs.s1,?_,rfl⟩
  have:=Hs.s0
  simp [Task.fJ,dF];omega
 unfold eE
 by_cases o1:re.op=1
 ·simp only[if_pos o1]
  by_cases hc:i<t.length/\Ba re.set (kW t i)=true
  ·simp only[if_pos hc]
   have q:=go next (i+1) c s1 (by omega) (by omega) H.ai rfl rfl rfl (Int.le_refl _) H.s1 H.empty (hn.mono (by omega) (Int.le_refl _))
   exact q
  ·simp only[if_neg hc];exact⟨0,false,s1,rfl,no⟩
 simp only[if_neg o1]
 by_cases o2:re.op=2
 ·simp only[if_pos o2];exact here _ (Hv hn re.kids h2)
 simp only[if_neg o2]
 by_cases o3:re.op=3
 ·simp only[if_pos o3]
  obtain⟨n,b,s',k1,k2⟩:=E8 (most:=most) (next:=next) (s0:=s1.steps) re.kids s1 (fun k hk s hs Hs=>IH most _ s hs ⟨by omega,h2 k hk,fun h=>by omega,fun h=>by omega,fun h=>by omega,fun h=>by omega,hn.mono (Int.le_refl _) hs⟩ Hs) (Int.le_refl _) (H.le (by omega))
  exact⟨n,b,s',k1,k2.Gt (by omega) (Int.le_refl _)⟩
 simp only[if_neg o3]
 by_cases o5:re.op=5
 ·simp only[if_pos o5]
  cases hk:re.kids with
  |nil=>exact absurd hk (SJ (by omega))
  |cons kid l =>
   exact here _ ⟨by omega,h2 kid (by rw[hk];simp),fun h=>by omega,fun h=>by omega,fun h=>by omega,fun h=>by omega,by omega,hsh,fun h=>by omega,fun h=>by omega,fun h=>by omega,fun _=>⟨hi0,Int.le_refl _⟩,hn⟩
 simp only[if_neg o5]
 by_cases o6:re.op=6
 ·simp only[if_pos o6]
  have mm:=Kf H.ai re.n
  generalize ck c re.n=x at *
  by_cases c1:x.1<0
  ·simp only[if_pos c1];exact⟨0,false,s1,rfl,no⟩
  simp only[if_neg c1]
  have hx:0<=x.1/\x.1<=x.2/\x.2<=t.length:=by
   rcases mm with h|h
   ·rw[h]at c1;exact absurd (by decide) c1
   ·exact h
  simp only[if_neg (show ¬(x.2<x.1\/(t.length:Int)<x.2) by omega)]
  by_cases c3:t.length<i+x.2-x.1
  ·simp only[if_pos c3];exact⟨0,false,s1,rfl,no⟩
  simp only[if_neg c3]
  by_cases c4:oW t x.1 i (x.2-x.1).toNat=true
  ·simp only[if_pos c4]
   exact go next (i+x.2-x.1) c s1 (by omega) (by omega) H.ai rfl rfl rfl (Int.le_refl _) H.s1 H.empty (hn.mono (by omega) (Int.le_refl _))
  ·simp only[if_neg c4];exact⟨0,false,s1,rfl,no⟩
 simp only[if_neg o6]
 by_cases o7:re.op=7\/re.op=8
 ·simp only[if_pos o7]
  cases hk:re.kids with
  |nil=>exact absurd hk (SJ (by omega))
  |cons kid l =>
   have Bx:kid.every ij=true:=h2 kid (by rw[hk];simp)
   have look:∃n r s',oZ (fG t F n) re.op kid i c s1=some (r,s')/\s1.steps<=s'.steps/\s'.steps<=F+1/\s'.empty=decide (F<s'.steps)/\s'.ends=s1.ends/\s'.ai=s1.ai/\(∀d,r=some d->gR t d/\d.length=c.length):=by
    unfold oZ
    by_cases p7:re.op=7
    ·simp only[if_pos p7]
     obtain⟨n,r,s',k1,k2,k3,k4,k5,k6,k7,k8,_⟩:=n5 (H.le (sl':=0) (by omega)) (fst kid .nil i s1 Bx trivial (Int.le_refl _) (H.le (by omega))) rfl
     refine⟨n,r.map (·.2),s',by rw[k1],k2,k3,k4,k5,k6,fun d hd=>?_⟩
     obtain⟨p,hp,rfl⟩:=Option.map_eq_some_iff.1 hd
     have:=k8 p.1 p.2 hp
     exact⟨this.2.2.1,this.2.2.2⟩
    ·simp only[if_neg p7]
     refine wK (s0:=s1.steps) rfl H.ai _ s1 (by omega) (fun k s hk hs Hs=>fst kid _ k s Bx ?_ hs Hs) (Int.le_refl _) H.s0 (by have:=H.s1;omega) (by rw[H.empty,decide_eq_false (by have:=H.s1;omega)]) (by have:=H.ends;omega) H.same
     refine⟨by omega,?_,fun h=>by omega,fun h=>by omega,fun h=>by omega,fun h=>by omega,trivial⟩
     rw[Re.aS]
     refine⟨decide_eq_true ⟨fun h=>by simp [Re.op]at h,fun h=>by simp [Re.op]at h,by simp [Re.set],by simp [Re.kids]⟩,fun k hk=>by simp [Re.kids]at hk⟩
   obtain⟨n1,r,s2,k1,k2,k3,k4,k5,k6,k7⟩:=look
   by_cases he:s2.empty=true
   ·refine⟨n1,true,s2,?_,⟨k2,k3,k4,fun _=>rfl,[],[],by rw[k5];simp,by rw[k6];simp,rfl,by simp;omega,by simp,by simp⟩⟩
    simp only[k1,if_pos he]
   have he:s2.empty=false:=by simpa using he
   have hle:=vQ k4 he
   have W7:dx t F 1 i c.length s1 false s2:=⟨k2,k3,k4,fun h=>(by rw[he]at h;cases h),[],[],by rw[k5];simp,by rw[k6];simp,rfl,by simp;omega,by simp,by simp⟩
   by_cases dJ:re.neg=true
   ·cases r with
    |some d =>
     refine⟨n1,false,s2,?_,W7⟩
     simp only[k1,he,Bool.false_eq_true,if_false,if_pos dJ]
    |none =>
     obtain⟨n2,b,s',j1,j2⟩:=go next i c s2 (Int.le_refl _) mE H.ai rfl k5 k6 k2 hle he (hn.mono (Int.le_refl _) k2)
     refine⟨max n1 n2,b,s',?_,j2⟩
     have hm:=sU (rec:=fG t F n1) (rec':=fG t F (max n1 n2)) (fun m task st r hr=>dy (Nat.le_max_left n1 n2) hr) k1
     simp only[hm,he,Bool.false_eq_true,if_false,if_pos dJ]
     exact dy (Nat.le_max_right n1 n2) j1
   ·cases r with
    |none =>
     refine⟨n1,false,s2,?_,W7⟩
     simp only[k1,he,Bool.false_eq_true,if_false,if_neg dJ]
    |some d =>
     obtain⟨q1,q2⟩:=k7 d rfl
     obtain⟨n2,b,s',j1,j2⟩:=go next i d s2 (Int.le_refl _) mE q1 q2 k5 k6 k2 hle he (hn.mono (Int.le_refl _) k2)
     refine⟨max n1 n2,b,s',?_,j2⟩
     have hm:=sU (rec:=fG t F n1) (rec':=fG t F (max n1 n2)) (fun m task st r hr=>dy (Nat.le_max_left n1 n2) hr) k1
     simp only[hm,he,Bool.false_eq_true,if_false,if_neg dJ]
     exact dy (Nat.le_max_right n1 n2) j1
 simp only[if_neg o7]
 by_cases o9:re.op=9
 ·simp only[if_pos o9]
  cases hk:re.kids with
  |nil=>exact absurd hk (SJ (by omega))
  |cons kid l =>
   have Bx:kid.every ij=true:=h2 kid (by rw[hk];simp)
   obtain⟨n1,r,s2,k1,k2,k3,k4,k5,k6,k7,k8,_⟩:=n5 (H.le (sl':=0) (by omega)) (fst kid .nil i s1 Bx trivial (Int.le_refl _) (H.le (by omega))) rfl
   by_cases he:s2.empty=true
   ·refine⟨n1,true,s2,?_,⟨k2,k3,k4,fun _=>rfl,[],[],by rw[k5];simp,by rw[k6];simp,rfl,by simp;omega,by simp,by simp⟩⟩
    simp only[k1,if_pos he]
   have he:s2.empty=false:=by simpa using he
   have hle:=vQ k4 he
   cases r with
   |none =>
    refine⟨n1,false,s2,?_,⟨k2,k3,k4,fun h=>(by rw[he]at h;cases h),[],[],by rw[k5];simp,by rw[k6];simp,rfl,by simp;omega,by simp,by simp⟩⟩
    simp only[k1,he,Bool.false_eq_true,if_false]
   |some p =>
    obtain⟨e,d⟩:=p
    obtain⟨q1,q2,q3,q4⟩:=k8 e d rfl
    obtain⟨n2,b,s',j1,j2⟩:=go next e d s2 q1 q2 q3 q4 k5 k6 k2 hle he (hn.mono q1 k2)
    refine⟨max n1 n2,b,s',?_,j2⟩
    have hm:=fI (rec:=fG t F n1) (rec':=fG t F (max n1 n2)) (fun m task st r hr=>dy (Nat.le_max_left n1 n2) hr) k1
    simp only[hm,he,Bool.false_eq_true,if_false]
    exact dy (Nat.le_max_right n1 n2) j1
 simp only[if_neg o9]
 by_cases FD:re.op=10
 ·simp only[if_pos FD]
  have dC:=Yu FD
  match hk:re.kids with
  |[]=>rw[hk]at dC;simp at dC
  |[_]=>rw[hk]at dC;simp at dC
  |yes::Y9::l =>
   have hy:∀k,k=yes\/k=Y9->k.every ij=true:=fun k h=>h2 k (by rw[hk];rcases h with rfl|rfl <;> simp)
   refine here _ ⟨by omega,hy _ ?_,fun h=>by omega,fun h=>by omega,fun h=>by omega,fun h=>by omega,hn⟩
   split
   ·exact .inl rfl
   ·exact .inr rfl
 simp only[if_neg FD]
 by_cases FF:re.op=11
 ·simp only[if_pos FF]
  by_cases hc:bP re.n t i=true
  ·simp only[if_pos hc];exact here next hn
  ·simp only[if_neg hc];exact⟨0,false,s1,rfl,no⟩
 simp only[if_neg FF]
 exact here next hn
theorem Lr {t:List Int}{F:Int}{i:Int}{c:aE}{st:bq} (ct:st.steps<=F) (IH:∀most task s,st.steps<s.steps->task.ok t s.steps->kd t F task.pos task.ai task.fJ s->Ends t F most task s) {most:Int}{re:Re}{k:Int}{next:Goal}
  (hsh:re.every ij=true) (o4:re.op=4) (nT:0<=k) (z0:k<=st.steps) (hn:ig t i st.steps next) (hF:F<=1200000000000) (H:kd t F i c 0 st) (hm:re.mode≠2) :
  ∃n b s',vA F (fG t F n) most re k next i c st=some (b,s')/\dx t F 0 i c.length st b s'/\st.steps<s'.steps:=by
 have mE:=H.i1
 have pk:=H.s0
 obtain⟨h1,h2⟩:=(Re.aS re).1 hsh
 obtain⟨SJ,_⟩:=of_decide_eq_true h1
 have qp:(st.step F).steps=st.steps+1:=rfl
 unfold vA
 simp only[if_neg hm]
 simp only[if_neg (show ¬(st.steps<0\/10000000000000<st.steps) by omega)]
 by_cases he:(st.step F).empty=true
 ·simp only[if_pos he]
  exact⟨0,true,st.step F,rfl,.out ct he H.empty,by rw[qp];omega⟩
 simp only[if_neg he]
 have he:(st.step F).empty=false:=by simpa using he
 have SU:st.steps+1<=F:=by
  simp only[bq.step,H.empty,Bool.false_or]at he
  have:=of_decide_eq_false he
  omega
 generalize gX:st.step F=s1 at *
 have e1:s1.ends=st.ends:=by rw[<- gX];rfl
 have e2:s1.ai=st.ai:=by rw[<- gX];rfl
 have H1:∀sl,sl<=1->kd t F i c sl s1:=fun sl uD=>H.at (Int.le_refl _) mE H.ai e1 e2 (by omega) (by omega) he (by omega)
 cases hk:re.kids with
 |nil=>exact absurd hk (SJ (by omega))
 |cons kid l =>
  have Bx:kid.every ij=true:=h2 kid (by rw[hk];simp)
  have My:ig t i s1.steps next:=hn.mono (Int.le_refl _) (by omega)
  have V2:∀s:bq,s1.steps<=s.steps->ig t i s.steps (.mk 0 kid 0 0 (.mk 2 re k i next)):=fun s hs =>
   ⟨by omega,Bx,fun h=>by omega,fun h=>by omega,fun h=>by omega,fun h=>by omega,by omega,hsh,fun _=>o4,fun h=>by omega,fun _=>⟨nT,by omega⟩,fun h=>by omega,My.mono (Int.le_refl _) hs⟩
  have once:∀s,s1.steps<=s.steps->kd t F i c 0 s->∃n b s',fG t F n most (.run (.mk 0 kid 0 0 (.mk 2 re k i next)) i c) s=some (b,s')/\dx t F 0 i c.length s b s':=fun s hs Hs=>by
   obtain⟨n,b,s',q1,q2,_⟩:=IH most (.run (.mk 0 kid 0 0 (.mk 2 re k i next)) i c) s (by omega) (V2 s hs) Hs
   exact⟨n,b,s',q1,q2⟩
  have Vu:∀s,s1.steps<=s.steps->kd t F i c 1 s->∃n b s',fG t F n most (.run next i c) s=some (b,s')/\dx t F 1 i c.length s b s':=fun s hs Hs=>by
   have uD:=fO next
   obtain⟨n,b,s',q1,q2,_⟩:=IH most (.run next i c) s (by omega) (My.mono (Int.le_refl _) hs) (Hs.le uD.2)
   exact⟨n,b,s',q1,q2.Gt uD.2 (Int.le_refl _)⟩
  have fin:∀{b s'},dx t F 1 i c.length s1 b s'->dx t F 0 i c.length st b s'/\st.steps<s'.steps:=fun {b s'} h=>⟨by have:=h.same (st:=st) (d:=1) e1 e2 (by omega) (by omega) (Int.le_refl _);simpa using this,by have:=h.s0;omega⟩
  simp only
  by_cases c2:k<re.mn
  ·simp only[if_pos c2]
   obtain⟨n,b,s',q1,q2⟩:=once s1 (Int.le_refl _) (H1 0 (by omega))
   exact⟨n,b,s',q1,fin (q2.Gt (by omega) (Int.le_refl _))⟩
  simp only[if_neg c2]
  have no:∀s,kd t F i c 0 s->dx t F 0 i c.length s false s:=fun s Hs=>.no Hs.s1 Hs.empty (Int.le_refl _)
  by_cases m1:re.mode=1
  ·simp only[if_pos m1]
   obtain⟨n1,b1,s2,q1,q2⟩:=Vu s1 (Int.le_refl _) (H1 1 (Int.le_refl _))
   cases b1 with
   |true=>exact⟨n1,true,s2,by rw[q1];rfl,fin q2⟩
   |false =>
    have H2:=(H1 1 (Int.le_refl _)).next q2 (sl':=0) (by omega)
    by_cases hM:re.mx=-1\/k<re.mx
    ·simp only[if_pos hM]
     obtain⟨n2,b2,s3,j1,j2⟩:=once s2 (by have:=q2.s0;omega) H2
     refine⟨max n1 n2,b2,s3,?_,fin (by have:=q2.trans j2;simpa using this)⟩
     rw[dy (Nat.le_max_left n1 n2) q1]
     exact dy (Nat.le_max_right n1 n2) j1
    ·simp only[if_neg hM]
     exact⟨n1,false,s2,by rw[q1];rfl,fin q2⟩
  ·simp only[if_neg m1]
   by_cases hM:re.mx=-1\/k<re.mx
   ·simp only[if_pos hM]
    obtain⟨n1,b1,s2,q1,q2⟩:=once s1 (Int.le_refl _) (H1 0 (by omega))
    cases b1 with
    |true=>exact⟨n1,true,s2,by rw[q1];rfl,fin (q2.Gt (by omega) (Int.le_refl _))⟩
    |false =>
     have H2:=(H1 1 (Int.le_refl _)).next q2 (sl':=1) (by omega)
     obtain⟨n2,b2,s3,j1,j2⟩:=Vu s2 (by have:=q2.s0;omega) H2
     refine⟨max n1 n2,b2,s3,?_,fin (by have:=q2.trans j2;simpa using this)⟩
     rw[dy (Nat.le_max_left n1 n2) q1]
     exact dy (Nat.le_max_right n1 n2) j1
   ·simp only[if_neg hM]
    obtain⟨n1,b1,s2,q1,q2⟩:=Vu s1 (Int.le_refl _) (H1 1 (Int.le_refl _))
    exact⟨n1,b1,s2,q1,fin q2⟩
theorem LJ {t:List Int}{F:Int} (hF:F<=1200000000000):∀(N r:Nat) (most:Int) (task:Task) (st:bq),(F+1-st.steps).toNat<=N->task.vp<=r->task.ok t st.steps->kd t F task.pos task.ai task.fJ st->Ends t F most task st:=by
 intro N
 induction N with
 |zero=>intro r most task st hN _ _ H;have:=H.s1;omega
 |succ N Y6 =>
  intro r
  -- after a step
  have later:∀(st:bq),(F+1-st.steps).toNat<=N+1->st.steps<=F->∀most task s,st.steps<s.steps->task.ok t s.steps->kd t F task.pos task.ai task.fJ s->Ends t F most task s :=
   fun st hN hs most task s az gZ H=>Y6 task.vp most task s (by omega) (Nat.le_refl _) gZ H
  induction r with
  |zero =>
   intro most task st hN hr gZ H
   cases task with
   |run g i c =>
    cases g with
    |nil =>
     have hi0:0<=i:=H.i0
     have mE:i<=t.length:=H.i1
     have zQ:=H.ends
     have gX:=H.s1
     have uD:(Task.run Goal.nil i c).fJ=1:=rfl
     rw[uD]at zQ
     refine⟨1,decide (0<=most)&&decide (most<=(st.ends.length:Int)+1),{ st with ends:=st.ends++[i],ai:=st.ai++[c] },?_,?_,fun h=>h.elim⟩
     ·show cn t F (fG t F 0) most (.run .nil i c) st=_
      simp only[cn]
      rw[if_neg (by omega),if_pos ⟨by omega,H.same⟩]
     ·refine⟨Int.le_refl _,by show st.steps<=F+1;omega,?_,fun h=>?_,[i],[c],rfl,rfl,rfl,?_,fun e he=>?_,fun d hd=>?_⟩
      ·show st.empty=decide (F<st.steps)
       rw[H.empty,decide_eq_false (by omega)]
      ·have h:st.empty=true:=h
       rw[H.empty]at h;cases h
      ·rw[uD];show ((1:Nat):Int)<=st.steps-st.steps+1;omega
      ·rw[List.mem_singleton.1 he];exact⟨Int.le_refl _,mE⟩
      ·rw[List.mem_singleton.1 hd];exact⟨H.ai,rfl⟩
    |mk kind re k eA next =>
     exfalso
     simp only[Task.vp,tE]at hr
     split at hr
     ·split at hr <;> omega
     ·split at hr
      ·omega
      ·split at hr <;> omega
   |rep g i c =>
    cases g with
    |nil=>exact gZ.elim
    |mk kind re k eA next =>
     exfalso
     simp only[Task.vp]at hr
     split at hr <;> omega
   |node g i c=>simp [Task.vp]at hr
  |succ r ihr =>
   intro most task st hN hr gZ H
   have hi0:=H.i0
   have mE:=H.i1
   have pk:=H.s0
   have gX:=H.s1
   cases task with
   |run g i c =>
    have hi0:0<=i:=hi0
    have mE:i<=t.length:=mE
    cases g with
    |nil=>exact ihr most _ st hN (Nat.zero_le _) gZ H
    |mk kind re k eA next =>
     obtain⟨g0,g1,g2,g3,g4,g5,g6⟩:=gZ
     by_cases k1:kind=1
     ·have PM:Task.vp (.rep (.mk kind re k eA next) i c)<=r:=by
       simp only[Task.vp,tE,if_pos k1]at hr ⊢
       split <;> rename_i hm <;> simp only[hm,if_true,if_false]at hr <;> omega
      refine Ends.via (task':=.rep (.mk kind re k eA next) i c) (fun rec=>?_) (ihr most _ st hN PM ⟨g1,g2 (.inl k1),(g3 k1).1,(g3 k1).2,g6⟩ ⟨hi0,mE,H.ai,H.empty,pk,gX,?_,H.same⟩) ?_ (Int.le_refl _) rfl (fun h=>h.2)
      ·simp only[cn];rw[if_neg (by omega),if_pos k1]
      ·have:=H.ends;have:=(fO (.mk kind re k eA next)).1;simp only[Task.fJ]at *;omega
      ·simp [Task.fJ];exact(fO _).1
     by_cases k2:kind=2
     ·have uD:dF (.mk kind re k eA next)=0:=by rw[dF,if_neg (by omega)]
      have zQ:=H.ends
      simp only[Task.fJ,uD]at zQ
      by_cases c1:re.mn<=k/\i=eA
      ·refine⟨1,false,st,?_,.no gX H.empty (by simp only[Task.fJ,uD];omega),fun h=>absurd h.1 k1⟩
       show cn t F (fG t F 0) most _ st=_
       simp only[cn]
       rw[if_neg (by omega),if_neg k1,if_pos k2,if_pos c1]
      ·have hk:=g4 k2
       refine Ends.via (task':=.run (.mk 1 re (k+1) 0 next) i c) (fun rec=>?_) (ihr most _ st hN ?_ ⟨by omega,g1,fun _=>g2 (.inr k2),fun _=>⟨by omega,by omega⟩,fun h=>by omega,fun h=>by omega,g6⟩ ⟨hi0,mE,H.ai,H.empty,pk,gX,?_,H.same⟩) ?_ (Int.le_refl _) rfl (fun h=>absurd h.1 k1)
       ·simp only[cn];rw[if_neg (by omega),if_neg k1,if_pos k2,if_neg c1,if_neg (by omega)]
       ·simp only[Task.vp,tE]at hr ⊢
        rw[if_neg k1,if_pos k2]at hr
        simp only[if_true]
        split <;> omega
       ·simp [Task.fJ,dF];omega
       ·simp only[Task.fJ,uD];simp [dF]
     by_cases k3:kind=3
     ·have hf:=g5 k3
      have uD:dF (.mk kind re k eA next)=dF next:=by rw[dF,if_pos (.inl k3)]
      obtain⟨w1,w2⟩:=gR.with (n:=re.n) (H.ai:gR t c) hf.1 hf.2 mE
      have iJ:c.length<=1000000000:=(H.ai:gR t c).1
      refine Ends.via (task':=.run next i (nM c re.n eA i)) (fun rec=>?_) (ihr most _ st hN ?_ g6 ⟨hi0,mE,w1,H.empty,pk,gX,?_,H.same⟩) ?_ (Int.le_refl _) w2 (fun h=>absurd h.1 k1)
      ·simp only[cn];rw[if_neg (by omega),if_neg k1,if_neg k2,if_pos k3,if_neg (by omega)]
      ·simp only[Task.vp]at hr ⊢
       rw[tE,if_neg k1,if_neg k2,if_pos (.inl k3)]at hr
       omega
      ·have:=H.ends;simp only[Task.fJ,uD]at this ⊢;exact this
      ·simp only[Task.fJ,uD];exact Int.le_refl _
     by_cases k4:kind=4
     ·have uD:dF (.mk kind re k eA next)=dF next:=by rw[dF,if_pos (.inr k4)]
      by_cases c1:i=eA
      ·refine Ends.via (task':=.run next i c) (fun rec=>?_) (ihr most _ st hN ?_ g6 ⟨hi0,mE,H.ai,H.empty,pk,gX,?_,H.same⟩) ?_ (Int.le_refl _) rfl (fun h=>absurd h.1 k1)
       ·simp only[cn];rw[if_neg (by omega),if_neg k1,if_neg k2,if_neg k3,if_pos k4,if_pos c1]
       ·simp only[Task.vp]at hr ⊢
        rw[tE,if_neg k1,if_neg k2,if_pos (.inr k4)]at hr
        omega
       ·have:=H.ends;simp only[Task.fJ,uD]at this ⊢;exact this
       ·simp only[Task.fJ,uD];exact Int.le_refl _
      ·refine⟨1,false,st,?_,.no gX H.empty (fO _).1,fun h=>absurd h.1 k1⟩
       show cn t F (fG t F 0) most _ st=_
       simp only[cn]
       rw[if_neg (by omega),if_neg k1,if_neg k2,if_neg k3,if_pos k4,if_neg c1]
     have uD:dF (.mk kind re k eA next)=0:=by rw[dF,if_neg (by omega)]
     refine Ends.via (task':=.node (.mk kind re k eA next) i c) (fun rec=>?_) (ihr most _ st hN ?_ ⟨g1,g6⟩ ⟨hi0,mE,H.ai,H.empty,pk,gX,?_,H.same⟩) ?_ (Int.le_refl _) rfl (fun h=>absurd h.1 k1)
     ·simp only[cn];rw[if_neg (by omega),if_neg k1,if_neg k2,if_neg k3,if_neg k4]
     ·simp only[Task.vp]at hr ⊢
      rw[tE,if_neg k1,if_neg k2,if_neg (by omega)]at hr
      omega
     ·have:=H.ends;simp only[Task.fJ,uD]at this ⊢;exact this
     ·simp only[Task.fJ,uD];exact Int.le_refl _
   |rep g i c =>
    have hi0:0<=i:=hi0
    have mE:i<=t.length:=mE
    cases g with
    |nil=>exact gZ.elim
    |mk kind re k eA next =>
     obtain⟨g1,g2,g3,g4,g5⟩:=gZ
     have zQ:(st.ends.length:Int)+0<=st.steps:=H.ends
     by_cases hm:re.mode=2
     ·have hf:=n5 (t:=t) (F:=F) (g:=.mk 1 (re.eo 0) 0 0 .nil) (i:=i) (c:=c) (sl:=0) (st:=st) ⟨hi0,mE,H.ai,H.empty,pk,gX,zQ,H.same⟩
       (ihr 1 _ _ (by simpa using hN) (by
        simp only[Task.vp,tE]at hr ⊢
        simp only[hm,if_true]at hr
        have eF:¬(re.eo 0).mode=2:=by simp [Re.eo,Re.mode]
        simp only[if_true]
        rw[if_neg eF];omega) ⟨by omega,Ac g1 0,fun _=>g2,fun _=>⟨Int.le_refl _,pk⟩,fun h=>by omega,fun h=>by omega,trivial⟩ ⟨hi0,mE,H.ai,rfl,pk,gX,(by simp [Task.fJ,dF];exact pk),rfl⟩) (by simp [dF])
      obtain⟨n1,r1,s1,j1,j2,j3,j4,j5,j6,j7,j8,j9⟩:=hf
      have az:st.steps<s1.steps:=j9 ⟨rfl,by simp [Re.eo,Re.mode]⟩
      have Ie:¬(Task.rep (.mk kind re k eA next) i c).yN:=fun h=>h hm
      have Jd:∀n r',vA F (fG t F n) most re k next i c st=r'->fG t F (n+1) most (.rep (.mk kind re k eA next) i c) st=r':=fun n r' h=>by
       show cn t F (fG t F n) most _ st=_
       simp only[cn];rw[if_neg (by omega)];exact h
      cases r1 with
      |none =>
       refine⟨n1+1,s1.empty,s1,Jd n1 _ ?_,⟨j2,j3,j4,fun h=>h,[],[],by rw[j5];simp,by rw[j6];simp,rfl,by simp [Task.fJ];omega,by simp,by simp⟩,fun h=>(Ie h).elim⟩
       unfold vA
       rw[if_pos hm,j1]
      |some p =>
       obtain⟨e,d⟩:=p
       obtain⟨q1,q2,q3,q4⟩:=j8 e d rfl
       have he:s1.empty=false:=by
        cases hx:s1.empty with
        |false=>rfl
        |true=>have:=j7 hx;cases this
       have hle:=vQ j4 he
       have uD:=fO next
       obtain⟨n2,b,s',l1,l2,_⟩:=later st hN gX most (.run next e d) s1 az (g5.mono q1 j2) ⟨Int.le_trans hi0 q1,q2,q3,he,by omega,hle,by rw[j5];simp only[Task.fJ];omega,by rw[j5,j6];exact H.same⟩
       have l2:dx t F (dF next) e d.length s1 b s':=l2
       rw[q4]at l2
       have l3:=(l2.Gt (sl':=1) uD.2 (Int.le_refl _)).same (st:=st) (d:=1) (i:=i) j5 j6 (by omega) (by omega) q1
       refine⟨max n1 n2+1,b,s',Jd _ _ ?_,(show dx t F 0 i c.length st b s' by simpa using l3),fun h=>(Ie h).elim⟩
       unfold vA
       have hmn:=fI (rec:=fG t F n1) (rec':=fG t F (max n1 n2)) (fun m task st r hr=>dy (Nat.le_max_left n1 n2) hr) j1
       rw[if_pos hm,hmn]
       exact dy (Nat.le_max_right n1 n2) l1
     ·obtain⟨n,b,s',q1,q2,q3⟩:=Lr gX (later st hN gX) (most:=most) g1 g2 g3 g4 g5 hF (⟨hi0,mE,H.ai,H.empty,pk,gX,zQ,H.same⟩:kd t F i c 0 st) hm
      refine⟨n+1,b,s',?_,q2,fun _=>q3⟩
      show cn t F (fG t F n) most _ st=_
      simp only[cn];rw[if_neg (by omega)];exact q1
   |node g i c =>
    have hi0:0<=i:=hi0
    have mE:i<=t.length:=mE
    cases g with
    |nil=>exact gZ.elim
    |mk kind re k eA next =>
     obtain⟨g1,g6⟩:=gZ
     have zQ:(st.ends.length:Int)+0<=st.steps:=H.ends
     obtain⟨h1,h2⟩:=(Re.aS re).1 g1
     obtain⟨_,_,Zg,Zi⟩:=of_decide_eq_true h1
     have iJ:c.length<=1000000000:=(H.ai:gR t c).1
     by_cases o4:re.op=4
     ·refine Ends.via (task':=.rep (.mk 1 re 0 0 next) i c) (fun rec=>?_) (ihr most _ st hN ?_ ⟨g1,o4,Int.le_refl _,pk,g6⟩ ⟨hi0,mE,H.ai,H.empty,pk,gX,zQ,H.same⟩) (Int.le_refl _) (Int.le_refl _) rfl (fun h=>absurd o4 h)
      ·simp only[cn];rw[if_neg (by omega),if_pos o4]
      ·simp only[Task.vp]at hr ⊢
       split <;> omega
     ·have qp:(st.step F).steps=st.steps+1:=rfl
      have Jd:∀n,fG t F (n+1) most (.node (.mk kind re k eA next) i c) st=if (st.step F).empty then some (true,st.step F) else eE t (fG t F n) most re next i c (st.step F):=fun n=>by
       show cn t F (fG t F n) most _ st=_
       simp only[cn]
       rw[if_neg (by omega),if_neg o4,if_neg (by omega),if_neg (by omega)]
      by_cases he:(st.step F).empty=true
      ·refine⟨1,true,st.step F,?_,.out gX he H.empty,fun _=>by rw[qp];omega⟩
       rw[Jd 0,if_pos he]
      ·have wN:(st.step F).empty=false:=by simpa using he
       have SU:st.steps+1<=F:=by
        simp only[bq.step,H.empty,Bool.false_or]at wN
        have:=of_decide_eq_false wN
        omega
       have H1:kd t F i c 1 (st.step F):=⟨hi0,mE,H.ai,wN,by rw[qp];omega,by rw[qp];omega,by rw[qp];show (st.ends.length:Int)+1<=st.steps+1;omega,H.same⟩
       obtain⟨n,b,s',q1,q2⟩:=IS (fun most task s hs UI H'=>later st hN gX most task s (by rw[qp]at hs;omega) UI H') (most:=most) g1 (g6.mono (Int.le_refl _) (by rw[qp];omega)) H1
       refine⟨n+1,b,s',?_,(show dx t F 0 i c.length st b s' by simpa using q2.step),fun _=>by have:=q2.s0;rw[qp]at this;omega⟩
       rw[Jd n,if_neg he];exact q1
def Mk.has (m:Mk) (u:Int):Bool:=decide (0<eb .and .i64 m.bu u)
def Re.node (op:Int) (kids:List Re):Re:=.mk op [] kids 0 0 0 0 false
def aD (t:Mk->Re×Mk):Nat->Int->Mk->List Re×Mk
 |0,_,m=>([],m)
 |f+1,i,m =>
  if i<2+(m.next 2).1 then
   (((t (m.next 2).2).1)::(aD t f (i+1) (t (m.next 2).2).2).1,(aD t f (i+1) (t (m.next 2).2).2).2)
  else ([],(m.next 2).2)
def ia:List Int:=[0,0,0,0,1,1,1,0,2,0,1,2]
def fq:List Int:=[-1,-1,-1,1,-1,-1,2,2,2,3,1,-1]
def cU (m:Mk):Int×Mk :=
 let x:=m.next 2
 if m.has 8 then (if (x.2.next 4).1=0 then 2 else x.1,(x.2.next 4).2) else x
def fD (t:Mk->Re×Mk) (m:Mk):Re×Mk :=
 let x:=t m
 if eb .and .i64 x.2.bu 32=0/\x.1.tT=true then x.2.set else x
def Mk.rep (t:Mk->Re×Mk) (m:Mk):Re×Mk :=
 let k:=m.next 12
 let md:=cU k.2
 let kid:=fD t md.2
 (.mk 4 [] [kid.1] ((ia[k.1.toNat]?).getD 0) ((fq[k.1.toNat]?).getD 0) md.1 0 false,kid.2)
def cJ (m:Mk):Int×Mk :=
 let again (m:Mk):Int×Mk:=(1+(m.next (max 1 m.ai)).1,(m.next (max 1 m.ai)).2)
 if 4<m.ai+1 then again m
 else if 0<m.ai then (if (m.next 9).1=0 then again (m.next 9).2 else (m.ai+1,(m.next 9).2))
 else (m.ai+1,m)
def Mk.iy (m:Mk) (c:Int):Mk:=⟨m.l,m.pos,m.bu,m.left,c⟩
def Mk.less (m:Mk):Mk:=⟨m.l,m.pos,m.bu,m.left-1,m.ai⟩
def Mk.fp (t:Mk->Re×Mk) (m:Mk):Re×Mk :=
 let c:=cJ m
 let r:=t (c.2.iy (max c.2.ai c.1))
 (.mk 5 [] [r.1] 0 0 0 c.1 false,r.2)
def Mk.node (t:Mk->Re×Mk) (k:Int) (m:Mk):Re×Mk :=
 if k<5 then (Re.node 2 (aD t 4 0 m).1,(aD t 4 0 m).2)
 else if k<8 then (Re.node 3 (aD t 4 0 m).1,(aD t 4 0 m).2)
 else if k<12 then m.rep t
 else if k=12/\m.has 64=true then m.fp t
 else if k=13/\m.has 64=true then m.fp t
 else if k=14/\m.has 16=true then (.mk 11 [] [] 0 0 0 (m.next 6).1 false,(m.next 6).2)
 else if k=15/\m.has 4=true then
  let y:=(m.next 3).2.next 2
  (.mk (7+y.1) [] [(t y.2).1] 0 0 0 0 (decide ((m.next 3).1=0)),(t y.2).2)
 else if k=16/\m.has 8=true then (Re.node 9 [(t m).1],(t m).2)
 else if k=17/\m.has 1=true/\0<m.ai then (.mk 6 [] [] 0 0 0 (1+(m.next m.ai).1) false,(m.next m.ai).2)
 else if k=18/\m.has 2=true/\0<m.ai then
  let x:=m.next m.ai
  let y:=t x.2
  let z:=t y.2
  (.mk 10 [] [y.1,z.1] 0 0 0 (1+x.1) false,z.2)
 else m.set
def Mk.tree:Nat->Mk->Re×Mk
 |0,m =>
  let x:=m.less.next 20
  if x.1=0 then (Re.node 0 [],x.2) else x.2.set
 |d+1,m =>
  let x:=m.less.next 20
  if x.2.left<3\/(x.2.l.length:Int)<x.2.pos then (if x.1=0 then (Re.node 0 [],x.2) else x.2.set)
  else x.2.node (Mk.tree d) x.1
structure Mk.In (m:Mk) (b:Int):Prop where
 l:∀x∈m.l,lA x
 p0:0<=m.pos
 p1:m.pos<=b
 l0:-b<=m.left
 l1:m.left<=1000000
 c0:0<=m.ai
 c1:m.ai<=4
theorem Mk.In.mono {m:Mk}{b b':Int} (h:m.In b) (hb:b<=b'):m.In b' :=
 ⟨h.l,h.p0,by have:=h.p1;omega,by have:=h.l0;omega,h.l1,h.c0,h.c1⟩
theorem Mk.In.next {m:Mk}{b:Int} (h:m.In b) (n:Int):(m.next n).2.In (b+1) :=
 ⟨h.l,by have:=h.p0;simp only[Mk.next];omega,by have:=h.p1;simp only[Mk.next];omega,by have:=h.l0;simp only[Mk.next];omega,h.l1,h.c0,h.c1⟩
theorem Mk.In.set {m:Mk}{b:Int} (h:m.In b):m.set.2.In (b+1):=h.next 15
def Good (t:Mk->Re×Mk) (c z:Int):Prop:=∀m b,0<=b->Mk.In m b->(t m).2.In (b+c)/\((t m).1.size:Int)<=z
theorem oJ (s:List (Int×Int)):(Re.LM s).size=1:=rfl
theorem ss {t:Mk->Re×Mk}{c z:Int} (hc:0<=c) (ht:Good t c z):∀(f:Nat) (i:Int) (m:Mk) (b:Int),0<=b->m.In b ->
  (aD t f i m).2.In (b+f*(c+1))/\(Re.cR (aD t f i m).1:Int)<=((aD t f i m).1.length:Int)*z/\(aD t f i m).1.length<=f
 |0,i,m,b,_,h=>by simp only[aD];exact⟨by simpa using h,by simp [Re.cR],by simp⟩
 |f+1,i,m,b,hb,h=>by
  simp only[aD]
  have hf:(0:Int)<=f*(c+1):=Int.mul_nonneg (by omega) (by omega)
  have e:((f+1:Nat):Int)*(c+1)=f*(c+1)+c+1:=by rw[Int.natCast_add,Int.add_mul];simp;omega
  split
  ·have h1:=h.next 2
   obtain⟨h2,h3⟩:=ht _ (b+1) (by omega) h1
   obtain⟨h4,h5,h6⟩:=ss hc ht f (i+1) _ (b+1+c) (by omega) h2
   refine⟨h4.mono (by omega),?_,by simpa using h6⟩
   simp only[Re.cR,List.length_cons,Int.natCast_add,Int.add_mul]
   omega
  ·exact⟨(h.next 2).mono (by omega),by simp [Re.cR],by simp⟩
theorem zo {m:Mk}{b:Int} (h:m.In b):(cU m).2.In (b+2):=by
 unfold cU
 simp only
 split
 ·have:=(h.next 2).next 4
  rwa [show b+1+1=b+2 by omega]at this
 ·exact(h.next 2).mono (by omega)
theorem DH {t:Mk->Re×Mk}{c z:Int} (hc:0<=c) (hz:1<=z) (ht:Good t c z):Good (fD t) (c+1) z:=by
 intro m b hb h
 obtain⟨h1,h2⟩:=ht m b hb h
 unfold fD
 simp only
 split
 ·exact⟨by have:=h1.set;rwa [Int.add_assoc]at this,by simp only[Mk.set];rw[oJ];omega⟩
 ·exact⟨h1.mono (by omega),h2⟩
theorem pO (op mn mx mode n:Int) (neg:Bool) (k:Re):((Re.mk op [] [k] mn mx mode n neg).size:Int)=1+k.size:=by
 simp [Re.size,Re.cR]
theorem KC {t:Mk->Re×Mk}{c z:Int} (hc:0<=c) (hz:1<=z) (ht:Good t c z):Good (Mk.rep t) (c+4) (z+1):=by
 intro m b hb h
 have h1:=zo (h.next 12)
 obtain⟨h2,h3⟩:=DH hc hz ht _ _ (by omega) h1
 simp only[Mk.rep]
 exact⟨h2.mono (by omega),by rw[pO];omega⟩
theorem vW {m:Mk}{b:Int} (h:m.In b):(cJ m).2.In (b+2)/\(cJ m).2.ai=m.ai/\1<=(cJ m).1/\(cJ m).1<=4:=by
 have h0:=h.c0
 have h1:=h.c1
 have again:∀(m':Mk),m'.ai=m.ai->0<m.ai->0<=pick m'.l m'.pos (max 1 m'.ai)/\pick m'.l m'.pos (max 1 m'.ai)<m.ai:=by
  intro m' he hp
  have:=bO m'.l m'.pos (max 1 m'.ai) (by omega)
  rw[he]at this ⊢
  omega
 unfold cJ
 simp only
 split
 ·have:=again m rfl (by omega)
  exact⟨(h.next (max 1 m.ai)).mono (by omega),rfl,by simp only[Mk.next];omega,by simp only[Mk.next];omega⟩
 ·split
  ·split
   ·have:=again (m.next 9).2 rfl (by omega)
    refine⟨?_,rfl,by simp only[Mk.next]at this ⊢;omega,by simp only[Mk.next]at this ⊢;omega⟩
    have h2:=(h.next 9).next (max 1 (m.next 9).2.ai)
    rwa [show b+1+1=b+2 by omega]at h2
   ·exact⟨(h.next 9).mono (by omega),rfl,by omega,by omega⟩
  ·exact⟨h.mono (by omega),rfl,by omega,by omega⟩
theorem uw {t:Mk->Re×Mk}{c z:Int} (hc:0<=c) (ht:Good t c z):Good (Mk.fp t) (c+2) (z+1):=by
 intro m b hb h
 obtain⟨h1,h2,h3,h4⟩:=vW h
 simp only[Mk.fp]
 obtain⟨h5,h6⟩:=ht ((cJ m).2.iy (max (cJ m).2.ai (cJ m).1)) (b+2) (by omega) ⟨h1.l,h1.p0,h1.p1,h1.l0,h1.l1,by show 0<=max _ _;omega,by have:=h.c1;show max _ _<=4;omega⟩
 exact⟨h5.mono (by omega),by rw[pO];omega⟩
theorem I4 {t:Mk->Re×Mk}{c z:Int} (hc:0<=c) (hz:1<=z) (ht:Good t c z) (k:Int):Good (Mk.node t k) (4*(c+1)) (4*z+1):=by
 intro m b hb h
 obtain⟨a1,a2,a3⟩:=ss hc ht 4 0 m b hb h
 have Zy:(Re.cR (aD t 4 0 m).1:Int)<=4*z:=by
  have:((aD t 4 0 m).1.length:Int)*z<=4*z:=Int.mul_le_mul_of_nonneg_right (by omega) (by omega)
  omega
 have WA:(aD t 4 0 m).2.In (b+4*(c+1)):=a1
 have sz:∀op,((Re.node op (aD t 4 0 m).1).size:Int)<=4*z+1:=by intro op;simp only[Re.node,Re.size];omega
 unfold Mk.node
 split
 ·exact⟨WA,sz _⟩
 split
 ·exact⟨WA,sz _⟩
 split
 ·obtain⟨h1,h2⟩:=KC hc hz ht m b hb h
  exact⟨h1.mono (by omega),by omega⟩
 split
 ·obtain⟨h1,h2⟩:=uw hc ht m b hb h
  exact⟨h1.mono (by omega),by omega⟩
 split
 ·obtain⟨h1,h2⟩:=uw hc ht m b hb h
  exact⟨h1.mono (by omega),by omega⟩
 split
 ·exact⟨(h.next 6).mono (by omega),by simp [Re.size,Re.cR];omega⟩
 split
 ·simp only
  obtain⟨h1,h2⟩:=ht _ (b+1+1) (by omega) ((h.next 3).next 2)
  exact⟨h1.mono (by omega),by rw[pO];omega⟩
 split
 ·obtain⟨h1,h2⟩:=ht m b hb h
  exact⟨h1.mono (by omega),by simp only[Re.node];rw[pO];omega⟩
 split
 ·exact⟨(h.next m.ai).mono (by omega),by simp [Re.size,Re.cR];omega⟩
 split
 ·simp only
  obtain⟨h1,h2⟩:=ht _ (b+1) (by omega) (h.next m.ai)
  obtain⟨h3,h4⟩:=ht _ (b+1+c) (by omega) h1
  exact⟨h3.mono (by omega),by simp only[Re.size,Re.cR];omega⟩
 ·exact⟨h.set.mono (by omega),by simp only[Mk.set];rw[oJ];omega⟩
def cD:Nat->Int
 |0=>3
 |d+1=>2+4*(cD d+1)
def zD:Nat->Int
 |0=>1
 |d+1=>4*zD d+1
theorem bw:∀d,3<=cD d
 |0=>by simp [cD]
 |d+1=>by have:=bw d;simp only[cD];omega
theorem vz:∀d,1<=zD d
 |0=>by simp [zD]
 |d+1=>by have:=vz d;simp only[zD];omega
theorem Mk.In.left {m:Mk}{b:Int} (h:m.In b):m.less.In (b+1) :=
 ⟨h.l,h.p0,by have:=h.p1;show m.pos<=_;omega,by have:=h.l0;show _<=m.left-1;omega,by have:=h.l1;show m.left-1<=_;omega,h.c0,h.c1⟩
theorem hZ:∀d,Good (Mk.tree d) (cD d) (zD d)
 |0=>by
  intro m b hb h
  have h1:=h.left.next 20
  simp only[Mk.tree,cD,zD]
  split
  ·exact⟨h1.mono (by omega),by simp [Re.node,Re.size,Re.cR]⟩
  ·exact⟨h1.set.mono (by omega),by simp only[Mk.set];rw[oJ];omega⟩
 |d+1=>by
  intro m b hb h
  have h1:=h.left.next 20
  have hc:=bw d
  have hz:=vz d
  simp only[Mk.tree,cD,zD]
  split
  ·split
   ·exact⟨h1.mono (by omega),by simp [Re.node,Re.size,Re.cR];omega⟩
   ·exact⟨h1.set.mono (by omega),by simp only[Mk.set];rw[oJ];omega⟩
  ·obtain⟨h2,h3⟩:=I4 (by omega) hz (hZ d) ((m.less.next 20).1) _ (b+1+1) (by omega) h1
   exact⟨h2.mono (by omega),h3⟩
end Go.Proofs.Ytfmdmlfhigocaaa
