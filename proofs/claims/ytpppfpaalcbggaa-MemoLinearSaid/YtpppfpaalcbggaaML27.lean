/- A part of the proof (G15 G16 G17). -/
import Derived.Test.YtpppfpaalcbggaaML18
set_option linter.unusedSimpArgs false
set_option linter.unusedVariables false
set_option maxRecDepth 100000
set_option maxHeartbeats 80000000
namespace Go.Proofs.Ytpppfpaalcbggaa
open Go.VL Go.Proofs.Try
theorem PostG.same {t:List Int} {F sl i e d:Int} {nc:Nat} {st s1 st':Sst} {b:Bool} (h:PostG t F sl e nc s1 b st') (he:s1.ends=st.ends) (hc:s1.caps=st.caps) (hs:st.steps + d≤s1.steps) (hd:0≤d) (hi:i≤e):PostG t F (sl - d) i nc st b st':=by
 obtain⟨new,newc,h1,h2,h3,h4,h5,h6⟩:=h.more
 exact⟨by have:=h.s0; omega,h.s1,h.empty,h.full,new,newc,by rw[h1,he],by rw[h2,hc],h3,by omega,fun x hx=>⟨by have:=h5 x hx; omega,(h5 x hx).2⟩,h6⟩
theorem Here.next {t:List Int} {F i:Int} {c:CapsL} {sl slp sl':Int} {st s1:Sst} (H:Here t F i c sl st) (h:PostG t F slp i c.length st false s1) (hs:slp + sl'≤sl):Here t F i c sl' s1:=by
 have he:s1.empty=false:=by
  cases hx:s1.empty with
  | false=>rfl
  | true=>have:=h.full hx; cases this
 have hd:=h.empty
 rw[he] at hd
 have hle:s1.steps≤F:=by
  have:=of_decide_eq_false hd.symm
  omega
 obtain⟨new,newc,h1,h2,h3,h4,h5,h6⟩:=h.more
 refine⟨H.i0,H.i1,H.caps,he,by have:=H.s0; have:=h.s0; omega,hle,?_,?_⟩
 ·have:=H.ends
  rw[h1,List.length_append,Int.natCast_add]; omega
 ·rw[h1,h2,List.length_append,List.length_append,h3,H.same]
theorem Ends.via {t:List Int} {F most:Int} {task task':Task} {st:Sst} (heq:∀rec,evStep t F rec most task st=rec most task' st) (h:Ends t F most task' st) (h1:task'.slack≤task.slack) (h2:task.pos≤task'.pos) (h3:task'.caps.length=task.caps.length)
  (h4:task.steppy→task'.steppy):Ends t F most task st:=by
 obtain⟨n,b,st',k1,k2,k3⟩:=h
 exact⟨n + 1,b,st',by show evStep t F (evR t F n) most task st=_; rw[heq]; exact k1,(h3 ▸ k2.weak h1 h2),fun hs=>k3 (h4 hs)⟩
theorem alt_ends {t:List Int} {F most:Int} {i:Int} {c:CapsL} {next:Goal} {s0:Int}:∀(l:List Re) (st:Sst),(∀k∈l,∀s:Sst,s0≤s.steps→Here t F i c 0 s→Ends t F most (.run (.mk 0 k 0 0 next) i c) s)→s0≤st.steps→Here t F i c 0 st →
  ∃n b s',altR (fun k st=>evR t F n most (.run (.mk 0 k 0 0 next) i c) st) l st=some (b,s')∧PostG t F 0 i c.length st b s'
 | [],st,_,_,H=>⟨0,false,st,rfl,.no H.s1 H.empty (Int.le_refl _)⟩
 | k::l,st,h,hs,H=>by
  obtain⟨n1,b1,s1,k1,k2,_⟩:=h k (by simp) st hs H
  have k2:PostG t F 0 i c.length st b1 s1:=k2
  cases b1 with
  | true =>
   refine⟨n1,true,s1,?_,k2⟩
   simp only[altR,k1,orR]
  | false =>
   have H1:=H.next k2 (sl':=0) (by omega)
   obtain⟨n2,b2,s2,j1,j2⟩:=alt_ends l s1 (fun k hk=>h k (by simp [hk])) (by have:=k2.s0; omega) H1
   refine⟨max n1 n2,b2,s2,?_,k2.trans j2⟩
   simp only[altR,evR_mono (Nat.le_max_left n1 n2) k1,orR]
   exact altR_mono (fun k st r hr=>evR_mono (Nat.le_max_right n1 n2) hr) l s1 _ j1
theorem behind_ends {t:List Int} {F:Int} {g:Goal} {c:CapsL} {s0:Int} (hsl:slackG g=0) (hc:CapsOk t c):∀(m:Nat) (st:Sst),(m:Int)≤t.length + 1→(∀(k:Nat) (s:Sst),k < m→s0≤s.steps→Here t F k c 0 s→Ends t F 1 (.run g k c) ⟨s.steps,false,[],[]⟩)→s0≤st.steps →
  0≤st.steps→st.steps≤F + 1→st.empty=decide (F < st.steps)→(st.ends.length:Int)≤st.steps→st.caps.length=st.ends.length →
  ∃n r s',behindR (fun k st=>firstR (evR t F n) g k c st) m st=some (r,s')∧st.steps≤s'.steps∧s'.steps≤F + 1∧s'.empty=decide (F < s'.steps)∧s'.ends=st.ends∧s'.caps=st.caps∧(∀d,r=some d→CapsOk t d∧d.length=c.length)
 | 0,st,_,_,_,h0,h1,he,hl,hs=>⟨0,none,st,rfl,Int.le_refl _,h1,he,rfl,rfl,fun d h=>(by cases h)⟩
 | m + 1,st,hm,h,hs0,h0,h1,he,hl,hs=>by
  by_cases hx:st.empty=true
  ·exact⟨0,none,st,by simp only[behindR,if_pos hx],Int.le_refl _,h1,he,rfl,rfl,fun d h=>(by cases h)⟩
  have hx:st.empty=false:=by simpa using hx
  have hle:st.steps≤F:=by
   rw[hx] at he
   have:=of_decide_eq_false he.symm
   omega
  have H:Here t F (m:Nat) c 0 st:=⟨by omega,by omega,hc,hx,h0,hle,by omega,hs⟩
  obtain⟨n1,r1,s1,k1,k2,k3,k4,k5,k6,k7,k8,_⟩:=first_ends H (h m st (by omega) hs0 H) hsl
  cases r1 with
  | some p =>
   obtain⟨e,d⟩:=p
   refine⟨n1,some d,s1,?_,k2,k3,k4,k5,k6,fun d' h=>?_⟩
   ·simp only[behindR,hx,Bool.false_eq_true,if_false,k1]
   ·cases h
    have:=k8 e d rfl
    exact⟨this.2.2.1,this.2.2.2⟩
  | none =>
   obtain⟨n2,r2,s2,j1,j2,j3,j4,j5,j6,j7⟩:=behind_ends hsl hc m s1 (by omega) (fun k s hk=>h k s (by omega)) (by omega) (by omega) k3 k4 (by rw[k5]; omega) (by rw[k5,k6]; exact hs)
   refine⟨max n1 n2,r2,s2,?_,by omega,j3,j4,by rw[j5,k5],by rw[j6,k6],j7⟩
   simp only[behindR,hx,Bool.false_eq_true,if_false]
   rw[firstR_mono (fun m task st r hr=>evR_mono (Nat.le_max_left n1 n2) hr) k1]
   exact behindR_mono (fun k st r hr=>firstR_mono (fun m task st r hr=>evR_mono (Nat.le_max_right n1 n2) hr) hr) m s1 _ j1
theorem CapsOk.with {t:List Int} {c:CapsL} {n frm to:Int} (h:CapsOk t c) (h0:0≤frm) (h1:frm≤to) (h2:to≤t.length):CapsOk t (withR c n frm to)∧(withR c n frm to).length=c.length:=by
 unfold withR
 split
 ·refine⟨⟨by simpa using h.1,fun p hp=>?_⟩,by simp⟩
  rcases List.mem_or_eq_of_mem_set hp with hp | rfl
  ·exact h.2 p hp
  ·exact .inr ⟨h0,h1,h2⟩
 ·exact⟨h,rfl⟩
theorem span_get {t:List Int} {c:CapsL} (h:CapsOk t c) (n:Int):SpanOk t (spanR c n):=by
 unfold spanR
 split
 ·exact .inl rfl
 ·rename_i hn
  have hlt:(n - 1).toNat < c.length:=by omega
  rw[List.getD,List.getElem?_eq_getElem hlt]
  exact h.2 _ (List.getElem_mem hlt)
theorem setMode_every {re:Re} (h:re.every shapeB=true) (m:Int):(re.setMode m).every shapeB=true:=by
 rw[Re.every_iff] at h ⊢
 exact⟨h.1,h.2⟩
theorem push_ok {t:List Int} {i s:Int} {next:Goal} (hn:GoalOk t i s next):∀l:List Re,(∀k∈l,k.every shapeB=true)→GoalOk t i s (pushAll l next)
 | [],_=>hn
 | k::l,h=>⟨by omega,h k (by simp),fun h=>by omega,fun h=>by omega,fun h=>by omega,fun h=>by omega,push_ok hn l (fun x hx=>h x (by simp [hx]))⟩
theorem Here.le {t:List Int} {F i:Int} {c:CapsL} {sl sl':Int} {s:Sst} (H:Here t F i c sl s) (h:sl'≤sl):Here t F i c sl' s :=
 ⟨H.i0,H.i1,H.caps,H.empty,H.s0,H.s1,by have:=H.ends; omega,H.same⟩
theorem Here.at {t:List Int} {F i e:Int} {c d:CapsL} {sl sl':Int} {s s2:Sst} (H:Here t F i c sl s) (he0:i≤e) (he1:e≤t.length) (hd:CapsOk t d) (h1:s2.ends=s.ends) (h2:s2.caps=s.caps) (h3:s.steps≤s2.steps) (h4:s2.steps≤F) (h5:s2.empty=false) (h6:sl'≤sl + (s2.steps - s.steps)):Here t F e d sl' s2 :=
 ⟨by have:=H.i0; omega,he1,hd,h5,by have:=H.s0; omega,h4,by have:=H.ends; rw[h1]; omega,by rw[h1,h2]; exact H.same⟩
theorem not_empty {F:Int} {s:Sst} (h:s.empty=decide (F < s.steps)) (he:s.empty=false):s.steps≤F:=by
 rw[he] at h
 have:=of_decide_eq_false h.symm
 omega
theorem node_ends {t:List Int} {F:Int} {i:Int} {c:CapsL} {s1:Sst} (IH:∀most task s,s1.steps≤s.steps→task.ok t s.steps→Here t F task.pos task.caps task.slack s→Ends t F most task s) {most:Int} {re:Re} {next:Goal}
  (hsh:re.every shapeB=true) (hn:GoalOk t i s1.steps next) (H:Here t F i c 1 s1) :
  ∃n b s',nodeR t (evR t F n) most re next i c s1=some (b,s')∧PostG t F 1 i c.length s1 b s':=by
 obtain⟨h1,h2⟩:=(Re.every_iff re).1 hsh
 obtain⟨h1a,h1b,_,_⟩:=of_decide_eq_true h1
 have hi0:=H.i0
 have hi1:=H.i1
 -- run goes on at a goal
 have go:∀(g:Goal) (e:Int) (d:CapsL) (s2:Sst),i≤e→e≤t.length→CapsOk t d→d.length=c.length→s2.ends=s1.ends→s2.caps=s1.caps→s1.steps≤s2.steps→s2.steps≤F→s2.empty=false→GoalOk t e s2.steps g →
   ∃n b s',evR t F n most (.run g e d) s2=some (b,s')∧PostG t F 1 i c.length s1 b s':=by
  intro g e d s2 a1 a2 a3 a4 a5 a6 a7 a8 a9 hg
  have hs:=slackG_range g
  obtain⟨n,b,s',k1,k2,_⟩:=IH most (.run g e d) s2 a7 hg (H.at (sl':=slackG g) a1 a2 a3 a5 a6 a7 a8 a9 (by omega))
  have k2:PostG t F (slackG g) e d.length s2 b s':=k2
  rw[a4] at k2
  have k3:=(k2.weak (sl':=1) hs.2 (Int.le_refl _)).same (st:=s1) (d:=0) (i:=i) a5 a6 (by omega) (Int.le_refl _) a1
  rw[Int.sub_zero] at k3
  exact⟨n,b,s',k1,k3⟩
 have here:∀g,GoalOk t i s1.steps g→∃n b s',evR t F n most (.run g i c) s1=some (b,s')∧PostG t F 1 i c.length s1 b s':=fun g hg=>go g i c s1 (Int.le_refl _) hi1 H.caps rfl rfl rfl (Int.le_refl _) H.s1 H.empty hg
 have no:PostG t F 1 i c.length s1 false s1:=.no H.s1 H.empty (by omega)
 -- the first result of a kid
 have fst:∀(kid:Re) (tail:Goal) (k:Int) (s:Sst),kid.every shapeB=true→GoalOk t k s.steps tail→s1.steps≤s.steps→Here t F k c 0 s→Ends t F 1 (.run (.mk 0 kid 0 0 tail) k c) ⟨s.steps,false,[],[]⟩:=by
  intro kid tail k s b1 b2 b3 Hs
  refine IH 1 _ _ b3 ⟨by omega,b1,fun h=>by omega,fun h=>by omega,fun h=>by omega,fun h=>by omega,b2⟩ ⟨Hs.i0,Hs.i1,Hs.caps,rfl,Hs.s0,Hs.s1,?_,rfl⟩
  have:=Hs.s0
  simp [Task.slack,slackG]; omega
 unfold nodeR
 by_cases o1:re.op=1
 ·simp only[if_pos o1]
  by_cases hc:i < t.length∧inB re.set (tAt t i)=true
  ·simp only[if_pos hc]
   have q:=go next (i + 1) c s1 (by omega) (by omega) H.caps rfl rfl rfl (Int.le_refl _) H.s1 H.empty (hn.mono (by omega) (Int.le_refl _))
   exact q
  ·simp only[if_neg hc]; exact⟨0,false,s1,rfl,no⟩
 simp only[if_neg o1]
 by_cases o2:re.op=2
 ·simp only[if_pos o2]; exact here _ (push_ok hn re.kids h2)
 simp only[if_neg o2]
 by_cases o3:re.op=3
 ·simp only[if_pos o3]
  obtain⟨n,b,s',k1,k2⟩:=alt_ends (most:=most) (next:=next) (s0:=s1.steps) re.kids s1 (fun k hk s hs Hs=>IH most _ s hs ⟨by omega,h2 k hk,fun h=>by omega,fun h=>by omega,fun h=>by omega,fun h=>by omega,hn.mono (Int.le_refl _) hs⟩ Hs) (Int.le_refl _) (H.le (by omega))
  exact⟨n,b,s',k1,k2.weak (by omega) (Int.le_refl _)⟩
 simp only[if_neg o3]
 by_cases o5:re.op=5
 ·simp only[if_pos o5]
  cases hk:re.kids with
  | nil=>exact absurd hk (h1a (by omega))
  | cons kid l =>
   exact here _ ⟨by omega,h2 kid (by rw[hk]; simp),fun h=>by omega,fun h=>by omega,fun h=>by omega,fun h=>by omega,by omega,hsh,fun h=>by omega,fun h=>by omega,fun h=>by omega,fun _=>⟨hi0,Int.le_refl _⟩,hn⟩
 simp only[if_neg o5]
 by_cases o6:re.op=6
 ·simp only[if_pos o6]
  have hsp:=span_get H.caps re.n
  generalize spanR c re.n=x at *
  by_cases c1:x.1 < 0
  ·simp only[if_pos c1]; exact⟨0,false,s1,rfl,no⟩
  simp only[if_neg c1]
  have hx:0≤x.1∧x.1≤x.2∧x.2≤t.length:=by
   rcases hsp with h | h
   ·rw[h] at c1; exact absurd (by decide) c1
   ·exact h
  simp only[if_neg (show ¬(x.2 < x.1∨(t.length:Int) < x.2) by omega)]
  by_cases c3:t.length < i + x.2 - x.1
  ·simp only[if_pos c3]; exact⟨0,false,s1,rfl,no⟩
  simp only[if_neg c3]
  by_cases c4:sameR t x.1 i (x.2 - x.1).toNat=true
  ·simp only[if_pos c4]
   exact go next (i + x.2 - x.1) c s1 (by omega) (by omega) H.caps rfl rfl rfl (Int.le_refl _) H.s1 H.empty (hn.mono (by omega) (Int.le_refl _))
  ·simp only[if_neg c4]; exact⟨0,false,s1,rfl,no⟩
 simp only[if_neg o6]
 by_cases o7:re.op=7∨re.op=8
 ·simp only[if_pos o7]
  cases hk:re.kids with
  | nil=>exact absurd hk (h1a (by omega))
  | cons kid l =>
   have hkid:kid.every shapeB=true:=h2 kid (by rw[hk]; simp)
   have look:∃n r s',lookR (evR t F n) re.op kid i c s1=some (r,s')∧s1.steps≤s'.steps∧s'.steps≤F + 1∧s'.empty=decide (F < s'.steps)∧s'.ends=s1.ends∧s'.caps=s1.caps∧(∀d,r=some d→CapsOk t d∧d.length=c.length):=by
    unfold lookR
    by_cases p7:re.op=7
    ·simp only[if_pos p7]
     obtain⟨n,r,s',k1,k2,k3,k4,k5,k6,k7,k8,_⟩:=first_ends (H.le (sl':=0) (by omega)) (fst kid .nil i s1 hkid trivial (Int.le_refl _) (H.le (by omega))) rfl
     refine⟨n,r.map (·.2),s',by rw[k1],k2,k3,k4,k5,k6,fun d hd=>?_⟩
     obtain⟨p,hp,rfl⟩:=Option.map_eq_some_iff.1 hd
     have:=k8 p.1 p.2 hp
     exact⟨this.2.2.1,this.2.2.2⟩
    ·simp only[if_neg p7]
     refine behind_ends (s0:=s1.steps) rfl H.caps _ s1 (by omega) (fun k s hk hs Hs=>fst kid _ k s hkid ?_ hs Hs) (Int.le_refl _) H.s0 (by have:=H.s1; omega) (by rw[H.empty,decide_eq_false (by have:=H.s1; omega)]) (by have:=H.ends; omega) H.same
     refine⟨by omega,?_,fun h=>by omega,fun h=>by omega,fun h=>by omega,fun h=>by omega,trivial⟩
     rw[Re.every_iff]
     refine⟨decide_eq_true ⟨fun h=>by simp [Re.op] at h,fun h=>by simp [Re.op] at h,by simp [Re.set],by simp [Re.kids]⟩,fun k hk=>by simp [Re.kids] at hk⟩
   obtain⟨n1,r,s2,k1,k2,k3,k4,k5,k6,k7⟩:=look
   by_cases he:s2.empty=true
   ·refine⟨n1,true,s2,?_,⟨k2,k3,k4,fun _=>rfl,[],[],by rw[k5]; simp,by rw[k6]; simp,rfl,by simp; omega,by simp,by simp⟩⟩
    simp only[k1,if_pos he]
   have he:s2.empty=false:=by simpa using he
   have hle:=not_empty k4 he
   have fno:PostG t F 1 i c.length s1 false s2:=⟨k2,k3,k4,fun h=>(by rw[he] at h; cases h),[],[],by rw[k5]; simp,by rw[k6]; simp,rfl,by simp; omega,by simp,by simp⟩
   by_cases hneg:re.neg=true
   ·cases r with
    | some d =>
     refine⟨n1,false,s2,?_,fno⟩
     simp only[k1,he,Bool.false_eq_true,if_false,if_pos hneg]
    | none =>
     obtain⟨n2,b,s',j1,j2⟩:=go next i c s2 (Int.le_refl _) hi1 H.caps rfl k5 k6 k2 hle he (hn.mono (Int.le_refl _) k2)
     refine⟨max n1 n2,b,s',?_,j2⟩
     have hm:=lookR_mono (rec:=evR t F n1) (rec':=evR t F (max n1 n2)) (fun m task st r hr=>evR_mono (Nat.le_max_left n1 n2) hr) k1
     simp only[hm,he,Bool.false_eq_true,if_false,if_pos hneg]
     exact evR_mono (Nat.le_max_right n1 n2) j1
   ·cases r with
    | none =>
     refine⟨n1,false,s2,?_,fno⟩
     simp only[k1,he,Bool.false_eq_true,if_false,if_neg hneg]
    | some d =>
     obtain⟨q1,q2⟩:=k7 d rfl
     obtain⟨n2,b,s',j1,j2⟩:=go next i d s2 (Int.le_refl _) hi1 q1 q2 k5 k6 k2 hle he (hn.mono (Int.le_refl _) k2)
     refine⟨max n1 n2,b,s',?_,j2⟩
     have hm:=lookR_mono (rec:=evR t F n1) (rec':=evR t F (max n1 n2)) (fun m task st r hr=>evR_mono (Nat.le_max_left n1 n2) hr) k1
     simp only[hm,he,Bool.false_eq_true,if_false,if_neg hneg]
     exact evR_mono (Nat.le_max_right n1 n2) j1
 simp only[if_neg o7]
 by_cases o9:re.op=9
 ·simp only[if_pos o9]
  cases hk:re.kids with
  | nil=>exact absurd hk (h1a (by omega))
  | cons kid l =>
   have hkid:kid.every shapeB=true:=h2 kid (by rw[hk]; simp)
   obtain⟨n1,r,s2,k1,k2,k3,k4,k5,k6,k7,k8,_⟩:=first_ends (H.le (sl':=0) (by omega)) (fst kid .nil i s1 hkid trivial (Int.le_refl _) (H.le (by omega))) rfl
   by_cases he:s2.empty=true
   ·refine⟨n1,true,s2,?_,⟨k2,k3,k4,fun _=>rfl,[],[],by rw[k5]; simp,by rw[k6]; simp,rfl,by simp; omega,by simp,by simp⟩⟩
    simp only[k1,if_pos he]
   have he:s2.empty=false:=by simpa using he
   have hle:=not_empty k4 he
   cases r with
   | none =>
    refine⟨n1,false,s2,?_,⟨k2,k3,k4,fun h=>(by rw[he] at h; cases h),[],[],by rw[k5]; simp,by rw[k6]; simp,rfl,by simp; omega,by simp,by simp⟩⟩
    simp only[k1,he,Bool.false_eq_true,if_false]
   | some p =>
    obtain⟨e,d⟩:=p
    obtain⟨q1,q2,q3,q4⟩:=k8 e d rfl
    obtain⟨n2,b,s',j1,j2⟩:=go next e d s2 q1 q2 q3 q4 k5 k6 k2 hle he (hn.mono q1 k2)
    refine⟨max n1 n2,b,s',?_,j2⟩
    have hm:=firstR_mono (rec:=evR t F n1) (rec':=evR t F (max n1 n2)) (fun m task st r hr=>evR_mono (Nat.le_max_left n1 n2) hr) k1
    simp only[hm,he,Bool.false_eq_true,if_false]
    exact evR_mono (Nat.le_max_right n1 n2) j1
 simp only[if_neg o9]
 by_cases o10:re.op=10
 ·simp only[if_pos o10]
  have h10:=h1b o10
  match hk:re.kids with
  | []=>rw[hk] at h10; simp at h10
  | [_]=>rw[hk] at h10; simp at h10
  | yes::no'::l =>
   have hy:∀k,k=yes∨k=no'→k.every shapeB=true:=fun k h=>h2 k (by rw[hk]; rcases h with rfl | rfl <;> simp)
   refine here _ ⟨by omega,hy _ ?_,fun h=>by omega,fun h=>by omega,fun h=>by omega,fun h=>by omega,hn⟩
   split
   ·exact .inl rfl
   ·exact .inr rfl
 simp only[if_neg o10]
 by_cases o11:re.op=11
 ·simp only[if_pos o11]
  by_cases hc:holdsR re.n t i=true
  ·simp only[if_pos hc]; exact here next hn
  ·simp only[if_neg hc]; exact⟨0,false,s1,rfl,no⟩
 simp only[if_neg o11]
 exact here next hn
theorem rep_ends {t:List Int} {F:Int} {i:Int} {c:CapsL} {st:Sst} (hst:st.steps≤F) (IH:∀most task s,st.steps < s.steps→task.ok t s.steps→Here t F task.pos task.caps task.slack s→Ends t F most task s) {most:Int} {re:Re} {k:Int} {next:Goal}
  (hsh:re.every shapeB=true) (o4:re.op=4) (hk0:0≤k) (hk1:k≤st.steps) (hn:GoalOk t i st.steps next) (hF:F≤1200000000000) (H:Here t F i c 0 st) (hm:re.mode≠2) :
  ∃n b s',repR F (evR t F n) most re k next i c st=some (b,s')∧PostG t F 0 i c.length st b s'∧st.steps < s'.steps:=by
 have hi1:=H.i1
 have hs0:=H.s0
 obtain⟨h1,h2⟩:=(Re.every_iff re).1 hsh
 obtain⟨h1a,_⟩:=of_decide_eq_true h1
 have hstep:(st.step F).steps=st.steps + 1:=rfl
 unfold repR
 simp only[if_neg hm]
 simp only[if_neg (show ¬(st.steps < 0∨10000000000000 < st.steps) by omega)]
 by_cases he:(st.step F).empty=true
 ·simp only[if_pos he]
  exact⟨0,true,st.step F,rfl,.out hst he H.empty,by rw[hstep]; omega⟩
 simp only[if_neg he]
 have he:(st.step F).empty=false:=by simpa using he
 have hF1:st.steps + 1≤F:=by
  simp only[Sst.step,H.empty,Bool.false_or] at he
  have:=of_decide_eq_false he
  omega
 generalize hs1:st.step F=s1 at *
 have e1:s1.ends=st.ends:=by rw[← hs1]; rfl
 have e2:s1.caps=st.caps:=by rw[← hs1]; rfl
 have H1:∀sl,sl≤1→Here t F i c sl s1:=fun sl hsl=>H.at (Int.le_refl _) hi1 H.caps e1 e2 (by omega) (by omega) he (by omega)
 cases hk:re.kids with
 | nil=>exact absurd hk (h1a (by omega))
 | cons kid l =>
  have hkid:kid.every shapeB=true:=h2 kid (by rw[hk]; simp)
  have hn1:GoalOk t i s1.steps next:=hn.mono (Int.le_refl _) (by omega)
  have hm2:∀s:Sst,s1.steps≤s.steps→GoalOk t i s.steps (.mk 0 kid 0 0 (.mk 2 re k i next)):=fun s hs =>
   ⟨by omega,hkid,fun h=>by omega,fun h=>by omega,fun h=>by omega,fun h=>by omega,by omega,hsh,fun _=>o4,fun h=>by omega,fun _=>⟨hk0,by omega⟩,fun h=>by omega,hn1.mono (Int.le_refl _) hs⟩
  have once:∀s,s1.steps≤s.steps→Here t F i c 0 s→∃n b s',evR t F n most (.run (.mk 0 kid 0 0 (.mk 2 re k i next)) i c) s=some (b,s')∧PostG t F 0 i c.length s b s':=fun s hs Hs=>by
   obtain⟨n,b,s',q1,q2,_⟩:=IH most (.run (.mk 0 kid 0 0 (.mk 2 re k i next)) i c) s (by omega) (hm2 s hs) Hs
   exact⟨n,b,s',q1,q2⟩
  have nxt:∀s,s1.steps≤s.steps→Here t F i c 1 s→∃n b s',evR t F n most (.run next i c) s=some (b,s')∧PostG t F 1 i c.length s b s':=fun s hs Hs=>by
   have hsl:=slackG_range next
   obtain⟨n,b,s',q1,q2,_⟩:=IH most (.run next i c) s (by omega) (hn1.mono (Int.le_refl _) hs) (Hs.le hsl.2)
   exact⟨n,b,s',q1,q2.weak hsl.2 (Int.le_refl _)⟩
  have fin:∀{b s'},PostG t F 1 i c.length s1 b s'→PostG t F 0 i c.length st b s'∧st.steps < s'.steps:=fun {b s'} h=>⟨by have:=h.same (st:=st) (d:=1) e1 e2 (by omega) (by omega) (Int.le_refl _); simpa using this,by have:=h.s0; omega⟩
  simp only
  by_cases c2:k < re.mn
  ·simp only[if_pos c2]
   obtain⟨n,b,s',q1,q2⟩:=once s1 (Int.le_refl _) (H1 0 (by omega))
   exact⟨n,b,s',q1,fin (q2.weak (by omega) (Int.le_refl _))⟩
  simp only[if_neg c2]
  have no:∀s,Here t F i c 0 s→PostG t F 0 i c.length s false s:=fun s Hs=>.no Hs.s1 Hs.empty (Int.le_refl _)
  by_cases m1:re.mode=1
  ·simp only[if_pos m1]
   obtain⟨n1,b1,s2,q1,q2⟩:=nxt s1 (Int.le_refl _) (H1 1 (Int.le_refl _))
   cases b1 with
   | true=>exact⟨n1,true,s2,by rw[q1]; rfl,fin q2⟩
   | false =>
    have H2:=(H1 1 (Int.le_refl _)).next q2 (sl':=0) (by omega)
    by_cases hM:re.mx=-1∨k < re.mx
    ·simp only[if_pos hM]
     obtain⟨n2,b2,s3,j1,j2⟩:=once s2 (by have:=q2.s0; omega) H2
     refine⟨max n1 n2,b2,s3,?_,fin (by have:=q2.trans j2; simpa using this)⟩
     rw[evR_mono (Nat.le_max_left n1 n2) q1]
     exact evR_mono (Nat.le_max_right n1 n2) j1
    ·simp only[if_neg hM]
     exact⟨n1,false,s2,by rw[q1]; rfl,fin q2⟩
  ·simp only[if_neg m1]
   by_cases hM:re.mx=-1∨k < re.mx
   ·simp only[if_pos hM]
    obtain⟨n1,b1,s2,q1,q2⟩:=once s1 (Int.le_refl _) (H1 0 (by omega))
    cases b1 with
    | true=>exact⟨n1,true,s2,by rw[q1]; rfl,fin (q2.weak (by omega) (Int.le_refl _))⟩
    | false =>
     have H2:=(H1 1 (Int.le_refl _)).next q2 (sl':=1) (by omega)
     obtain⟨n2,b2,s3,j1,j2⟩:=nxt s2 (by have:=q2.s0; omega) H2
     refine⟨max n1 n2,b2,s3,?_,fin (by have:=q2.trans j2; simpa using this)⟩
     rw[evR_mono (Nat.le_max_left n1 n2) q1]
     exact evR_mono (Nat.le_max_right n1 n2) j1
   ·simp only[if_neg hM]
    obtain⟨n1,b1,s2,q1,q2⟩:=nxt s1 (Int.le_refl _) (H1 1 (Int.le_refl _))
    exact⟨n1,b1,s2,q1,fin q2⟩
theorem ends_all {t:List Int} {F:Int} (hF:F≤1200000000000):∀(N r:Nat) (most:Int) (task:Task) (st:Sst),(F + 1 - st.steps).toNat≤N→task.rank≤r→task.ok t st.steps→Here t F task.pos task.caps task.slack st→Ends t F most task st:=by
 intro N
 induction N with
 | zero=>intro r most task st hN _ _ H; have:=H.s1; omega
 | succ N ihN =>
  intro r
  -- after a step
  have later:∀(st:Sst),(F + 1 - st.steps).toNat≤N + 1→st.steps≤F→∀most task s,st.steps < s.steps→task.ok t s.steps→Here t F task.pos task.caps task.slack s→Ends t F most task s :=
   fun st hN hs most task s hlt hok H=>ihN task.rank most task s (by omega) (Nat.le_refl _) hok H
  induction r with
  | zero =>
   intro most task st hN hr hok H
   cases task with
   | run g i c =>
    cases g with
    | nil =>
     have hi0:0≤i:=H.i0
     have hi1:i≤t.length:=H.i1
     have hend:=H.ends
     have hs1:=H.s1
     have hsl:(Task.run Goal.nil i c).slack=1:=rfl
     rw[hsl] at hend
     refine⟨1,decide (0≤most)&&decide (most≤(st.ends.length:Int) + 1),{ st with ends:=st.ends++[i],caps:=st.caps++[c] },?_,?_,fun h=>h.elim⟩
     ·show evStep t F (evR t F 0) most (.run .nil i c) st=_
      simp only[evStep]
      rw[if_neg (by omega),if_pos ⟨by omega,H.same⟩]
     ·refine⟨Int.le_refl _,by show st.steps≤F + 1; omega,?_,fun h=>?_,[i],[c],rfl,rfl,rfl,?_,fun e he=>?_,fun d hd=>?_⟩
      ·show st.empty=decide (F < st.steps)
       rw[H.empty,decide_eq_false (by omega)]
      ·have h:st.empty=true:=h
       rw[H.empty] at h; cases h
      ·rw[hsl]; show ((1:Nat):Int)≤st.steps - st.steps + 1; omega
      ·rw[List.mem_singleton.1 he]; exact⟨Int.le_refl _,hi1⟩
      ·rw[List.mem_singleton.1 hd]; exact⟨H.caps,rfl⟩
    | mk kind re k frm next =>
     exfalso
     simp only[Task.rank,rankG] at hr
     split at hr
     ·split at hr <;> omega
     ·split at hr
      ·omega
      ·split at hr <;> omega
   | rep g i c =>
    cases g with
    | nil=>exact hok.elim
    | mk kind re k frm next =>
     exfalso
     simp only[Task.rank] at hr
     split at hr <;> omega
   | node g i c=>simp [Task.rank] at hr
  | succ r ihr =>
   intro most task st hN hr hok H
   have hi0:=H.i0
   have hi1:=H.i1
   have hs0:=H.s0
   have hs1:=H.s1
   cases task with
   | run g i c =>
    have hi0:0≤i:=hi0
    have hi1:i≤t.length:=hi1
    cases g with
    | nil=>exact ihr most _ st hN (Nat.zero_le _) hok H
    | mk kind re k frm next =>
     obtain⟨g0,g1,g2,g3,g4,g5,g6⟩:=hok
     by_cases k1:kind=1
     ·have hrk:Task.rank (.rep (.mk kind re k frm next) i c)≤r:=by
       simp only[Task.rank,rankG,if_pos k1] at hr ⊢
       split <;> rename_i hm <;> simp only[hm,if_true,if_false] at hr <;> omega
      refine Ends.via (task':=.rep (.mk kind re k frm next) i c) (fun rec=>?_) (ihr most _ st hN hrk ⟨g1,g2 (.inl k1),(g3 k1).1,(g3 k1).2,g6⟩ ⟨hi0,hi1,H.caps,H.empty,hs0,hs1,?_,H.same⟩) ?_ (Int.le_refl _) rfl (fun h=>h.2)
      ·simp only[evStep]; rw[if_neg (by omega),if_pos k1]
      ·have:=H.ends; have:=(slackG_range (.mk kind re k frm next)).1; simp only[Task.slack] at *; omega
      ·simp [Task.slack]; exact(slackG_range _).1
     by_cases k2:kind=2
     ·have hsl:slackG (.mk kind re k frm next)=0:=by rw[slackG,if_neg (by omega)]
      have hend:=H.ends
      simp only[Task.slack,hsl] at hend
      by_cases c1:re.mn≤k∧i=frm
      ·refine⟨1,false,st,?_,.no hs1 H.empty (by simp only[Task.slack,hsl]; omega),fun h=>absurd h.1 k1⟩
       show evStep t F (evR t F 0) most _ st=_
       simp only[evStep]
       rw[if_neg (by omega),if_neg k1,if_pos k2,if_pos c1]
      ·have hk:=g4 k2
       refine Ends.via (task':=.run (.mk 1 re (k + 1) 0 next) i c) (fun rec=>?_) (ihr most _ st hN ?_ ⟨by omega,g1,fun _=>g2 (.inr k2),fun _=>⟨by omega,by omega⟩,fun h=>by omega,fun h=>by omega,g6⟩ ⟨hi0,hi1,H.caps,H.empty,hs0,hs1,?_,H.same⟩) ?_ (Int.le_refl _) rfl (fun h=>absurd h.1 k1)
       ·simp only[evStep]; rw[if_neg (by omega),if_neg k1,if_pos k2,if_neg c1,if_neg (by omega)]
       ·simp only[Task.rank,rankG] at hr ⊢
        rw[if_neg k1,if_pos k2] at hr
        simp only[if_true]
        split <;> omega
       ·simp [Task.slack,slackG]; omega
       ·simp only[Task.slack,hsl]; simp [slackG]
     by_cases k3:kind=3
     ·have hf:=g5 k3
      have hsl:slackG (.mk kind re k frm next)=slackG next:=by rw[slackG,if_pos (.inl k3)]
      obtain⟨w1,w2⟩:=CapsOk.with (n:=re.n) (H.caps:CapsOk t c) hf.1 hf.2 hi1
      have hcl:c.length≤1000000000:=(H.caps:CapsOk t c).1
      refine Ends.via (task':=.run next i (withR c re.n frm i)) (fun rec=>?_) (ihr most _ st hN ?_ g6 ⟨hi0,hi1,w1,H.empty,hs0,hs1,?_,H.same⟩) ?_ (Int.le_refl _) w2 (fun h=>absurd h.1 k1)
      ·simp only[evStep]; rw[if_neg (by omega),if_neg k1,if_neg k2,if_pos k3,if_neg (by omega)]
      ·simp only[Task.rank] at hr ⊢
       rw[rankG,if_neg k1,if_neg k2,if_pos (.inl k3)] at hr
       omega
      ·have:=H.ends; simp only[Task.slack,hsl] at this ⊢; exact this
      ·simp only[Task.slack,hsl]; exact Int.le_refl _
     by_cases k4:kind=4
     ·have hsl:slackG (.mk kind re k frm next)=slackG next:=by rw[slackG,if_pos (.inr k4)]
      by_cases c1:i=frm
      ·refine Ends.via (task':=.run next i c) (fun rec=>?_) (ihr most _ st hN ?_ g6 ⟨hi0,hi1,H.caps,H.empty,hs0,hs1,?_,H.same⟩) ?_ (Int.le_refl _) rfl (fun h=>absurd h.1 k1)
       ·simp only[evStep]; rw[if_neg (by omega),if_neg k1,if_neg k2,if_neg k3,if_pos k4,if_pos c1]
       ·simp only[Task.rank] at hr ⊢
        rw[rankG,if_neg k1,if_neg k2,if_pos (.inr k4)] at hr
        omega
       ·have:=H.ends; simp only[Task.slack,hsl] at this ⊢; exact this
       ·simp only[Task.slack,hsl]; exact Int.le_refl _
      ·refine⟨1,false,st,?_,.no hs1 H.empty (slackG_range _).1,fun h=>absurd h.1 k1⟩
       show evStep t F (evR t F 0) most _ st=_
       simp only[evStep]
       rw[if_neg (by omega),if_neg k1,if_neg k2,if_neg k3,if_pos k4,if_neg c1]
     have hsl:slackG (.mk kind re k frm next)=0:=by rw[slackG,if_neg (by omega)]
     refine Ends.via (task':=.node (.mk kind re k frm next) i c) (fun rec=>?_) (ihr most _ st hN ?_ ⟨g1,g6⟩ ⟨hi0,hi1,H.caps,H.empty,hs0,hs1,?_,H.same⟩) ?_ (Int.le_refl _) rfl (fun h=>absurd h.1 k1)
     ·simp only[evStep]; rw[if_neg (by omega),if_neg k1,if_neg k2,if_neg k3,if_neg k4]
     ·simp only[Task.rank] at hr ⊢
      rw[rankG,if_neg k1,if_neg k2,if_neg (by omega)] at hr
      omega
     ·have:=H.ends; simp only[Task.slack,hsl] at this ⊢; exact this
     ·simp only[Task.slack,hsl]; exact Int.le_refl _
   | rep g i c =>
    have hi0:0≤i:=hi0
    have hi1:i≤t.length:=hi1
    cases g with
    | nil=>exact hok.elim
    | mk kind re k frm next =>
     obtain⟨g1,g2,g3,g4,g5⟩:=hok
     have hend:(st.ends.length:Int) + 0≤st.steps:=H.ends
     by_cases hm:re.mode=2
     ·have hf:=first_ends (t:=t) (F:=F) (g:=.mk 1 (re.setMode 0) 0 0 .nil) (i:=i) (c:=c) (sl:=0) (st:=st) ⟨hi0,hi1,H.caps,H.empty,hs0,hs1,hend,H.same⟩
       (ihr 1 _ _ (by simpa using hN) (by
        simp only[Task.rank,rankG] at hr ⊢
        simp only[hm,if_true] at hr
        have hne:¬(re.setMode 0).mode=2:=by simp [Re.setMode,Re.mode]
        simp only[if_true]
        rw[if_neg hne]; omega) ⟨by omega,setMode_every g1 0,fun _=>g2,fun _=>⟨Int.le_refl _,hs0⟩,fun h=>by omega,fun h=>by omega,trivial⟩ ⟨hi0,hi1,H.caps,rfl,hs0,hs1,(by simp [Task.slack,slackG]; exact hs0),rfl⟩) (by simp [slackG])
      obtain⟨n1,r1,s1,j1,j2,j3,j4,j5,j6,j7,j8,j9⟩:=hf
      have hlt:st.steps < s1.steps:=j9 ⟨rfl,by simp [Re.setMode,Re.mode]⟩
      have hsteppy:¬(Task.rep (.mk kind re k frm next) i c).steppy:=fun h=>h hm
      have hev:∀n r',repR F (evR t F n) most re k next i c st=r'→evR t F (n + 1) most (.rep (.mk kind re k frm next) i c) st=r':=fun n r' h=>by
       show evStep t F (evR t F n) most _ st=_
       simp only[evStep]; rw[if_neg (by omega)]; exact h
      cases r1 with
      | none =>
       refine⟨n1 + 1,s1.empty,s1,hev n1 _ ?_,⟨j2,j3,j4,fun h=>h,[],[],by rw[j5]; simp,by rw[j6]; simp,rfl,by simp [Task.slack]; omega,by simp,by simp⟩,fun h=>(hsteppy h).elim⟩
       unfold repR
       rw[if_pos hm,j1]
      | some p =>
       obtain⟨e,d⟩:=p
       obtain⟨q1,q2,q3,q4⟩:=j8 e d rfl
       have he:s1.empty=false:=by
        cases hx:s1.empty with
        | false=>rfl
        | true=>have:=j7 hx; cases this
       have hle:=not_empty j4 he
       have hsl:=slackG_range next
       obtain⟨n2,b,s',l1,l2,_⟩:=later st hN hs1 most (.run next e d) s1 hlt (g5.mono q1 j2) ⟨Int.le_trans hi0 q1,q2,q3,he,by omega,hle,by rw[j5]; simp only[Task.slack]; omega,by rw[j5,j6]; exact H.same⟩
       have l2:PostG t F (slackG next) e d.length s1 b s':=l2
       rw[q4] at l2
       have l3:=(l2.weak (sl':=1) hsl.2 (Int.le_refl _)).same (st:=st) (d:=1) (i:=i) j5 j6 (by omega) (by omega) q1
       refine⟨max n1 n2 + 1,b,s',hev _ _ ?_,(show PostG t F 0 i c.length st b s' by simpa using l3),fun h=>(hsteppy h).elim⟩
       unfold repR
       have hmn:=firstR_mono (rec:=evR t F n1) (rec':=evR t F (max n1 n2)) (fun m task st r hr=>evR_mono (Nat.le_max_left n1 n2) hr) j1
       rw[if_pos hm,hmn]
       exact evR_mono (Nat.le_max_right n1 n2) l1
     ·obtain⟨n,b,s',q1,q2,q3⟩:=rep_ends hs1 (later st hN hs1) (most:=most) g1 g2 g3 g4 g5 hF (⟨hi0,hi1,H.caps,H.empty,hs0,hs1,hend,H.same⟩:Here t F i c 0 st) hm
      refine⟨n + 1,b,s',?_,q2,fun _=>q3⟩
      show evStep t F (evR t F n) most _ st=_
      simp only[evStep]; rw[if_neg (by omega)]; exact q1
   | node g i c =>
    have hi0:0≤i:=hi0
    have hi1:i≤t.length:=hi1
    cases g with
    | nil=>exact hok.elim
    | mk kind re k frm next =>
     obtain⟨g1,g6⟩:=hok
     have hend:(st.ends.length:Int) + 0≤st.steps:=H.ends
     obtain⟨h1,h2⟩:=(Re.every_iff re).1 g1
     obtain⟨_,_,h1c,h1d⟩:=of_decide_eq_true h1
     have hcl:c.length≤1000000000:=(H.caps:CapsOk t c).1
     by_cases o4:re.op=4
     ·refine Ends.via (task':=.rep (.mk 1 re 0 0 next) i c) (fun rec=>?_) (ihr most _ st hN ?_ ⟨g1,o4,Int.le_refl _,hs0,g6⟩ ⟨hi0,hi1,H.caps,H.empty,hs0,hs1,hend,H.same⟩) (Int.le_refl _) (Int.le_refl _) rfl (fun h=>absurd o4 h)
      ·simp only[evStep]; rw[if_neg (by omega),if_pos o4]
      ·simp only[Task.rank] at hr ⊢
       split <;> omega
     ·have hstep:(st.step F).steps=st.steps + 1:=rfl
      have hev:∀n,evR t F (n + 1) most (.node (.mk kind re k frm next) i c) st=if (st.step F).empty then some (true,st.step F) else nodeR t (evR t F n) most re next i c (st.step F):=fun n=>by
       show evStep t F (evR t F n) most _ st=_
       simp only[evStep]
       rw[if_neg (by omega),if_neg o4,if_neg (by omega),if_neg (by omega)]
      by_cases he:(st.step F).empty=true
      ·refine⟨1,true,st.step F,?_,.out hs1 he H.empty,fun _=>by rw[hstep]; omega⟩
       rw[hev 0,if_pos he]
      ·have he':(st.step F).empty=false:=by simpa using he
       have hF1:st.steps + 1≤F:=by
        simp only[Sst.step,H.empty,Bool.false_or] at he'
        have:=of_decide_eq_false he'
        omega
       have H1:Here t F i c 1 (st.step F):=⟨hi0,hi1,H.caps,he',by rw[hstep]; omega,by rw[hstep]; omega,by rw[hstep]; show (st.ends.length:Int) + 1≤st.steps + 1; omega,H.same⟩
       obtain⟨n,b,s',q1,q2⟩:=node_ends (fun most task s hs hok' H'=>later st hN hs1 most task s (by rw[hstep] at hs; omega) hok' H') (most:=most) g1 (g6.mono (Int.le_refl _) (by rw[hstep]; omega)) H1
       refine⟨n + 1,b,s',?_,(show PostG t F 0 i c.length st b s' by simpa using q2.step),fun _=>by have:=q2.s0; rw[hstep] at this; omega⟩
       rw[hev n,if_neg he]; exact q1
end Go.Proofs.Ytpppfpaalcbggaa
