/- A part of the proof (G15 G16 G17 F6 F7). -/
import Derived.Test.YtfmdmlfhigocaaaON16
import Derived.Test.YtfmdmlfhigocaaaON20
set_option linter.unusedSimpArgs false
set_option linter.unusedVariables false
set_option maxRecDepth 100000
set_option maxHeartbeats 80000000
namespace Go.Proofs.Ytfmdmlfhigocaaa
open Go.VL Go.Proofs.Try
variable{st:bJ}{F:Int}{sl:Int}{s1:bJ}{i:Int}{t:List Int}{c:aK}{sl':Int}{most:Int}{re:Re}{s:bJ}{b:Int}{m:Mk}{z:Int}
theorem dW.same{e d:Int}{nc:Nat}{st':bJ}{b:Bool} (h:dW t F sl e nc s1 b st') (he:s1.ends=st.ends) (hc:s1.ak=st.ak) (hs:st.steps+d<=s1.steps) (hd:0<=d) (hi:i<=e):dW t F (sl-d) i nc st b st':=by obtain⟨new,v9,h1,h2,h3,h4,h5,h6⟩:=h.more;exact⟨by have:=h.s0;omega,h.s1,h.empty,h.full,new,v9,by rw[h1,he],by rw[h2,hc],h3,by omega,λx hx=>⟨by have:=h5 x hx;omega,(h5 x hx).2⟩,h6⟩
theorem lW.next{slp:Int} (H:lW t F i c sl st) (h:dW t F slp i c.length st false s1) (hs:slp+sl'<=sl):lW t F i c sl' s1:=by
 have he:s1.empty=false:=by
  cases hx:s1.empty with
  |false=>rfl
  |true=>have:=h.full hx;cases this
 have hd:=h.empty;rw[he]at hd;have hle:s1.steps<=F:=by have:=of_decide_eq_false hd.symm;omega
 obtain⟨new,v9,h1,h2,h3,h4,h5,h6⟩:=h.more;refine⟨H.i0,H.i1,H.ak,he,by have:=H.s0;have:=h.s0;omega,hle,?_,?_⟩
 ·have:=H.ends;rw[h1,af7,ag2];omega
 ·rw[h1,h2,af7,af7,h3,H.same]
theorem Ends.via{task task':Task} (heq:∀rec,cF t F rec most task st=rec most task' st) (h:Ends t F most task' st) (h1:task'.gW<=task.gW) (h2:task.pos<=task'.pos) (h3:task'.ak.length=task.ak.length)
  (h4:task.Ce->task'.Ce):Ends t F most task st:=by
 obtain⟨n,b,st',k1,k2,k3⟩:=h;exact⟨n+1,b,st',by show cF t F (gT t F n) most task st=_;rw[heq];exact k1,(h3 ▸ k2.FY h1 h2),λhs=>k3 (h4 hs)⟩
theorem Jr {t:List Int}{F most:Int}{i:Int}{c:aK}{next:Goal}{s0:Int}:∀(l:List Re) (st:bJ),(∀k∈l,∀s:bJ,s0<=s.steps->lW t F i c 0 s->Ends t F most (.run (.mk 0 k 0 0 next) i c) s)->s0<=st.steps->lW t F i c 0 st ->
  ∃n b s',Bv (λk st=>gT t F n most (.run (.mk 0 k 0 0 next) i c) st) l st=some (b,s')/\dW t F 0 i c.length st b s'
 |[],st,_,_,H=>⟨0,false,st,rfl,.no H.s1 H.empty (agn _)⟩
 |k::l,st,h,hs,H=>by
  obtain⟨n1,b1,s1,k1,k2,_⟩:=h k (by simp) st hs H;have k2:dW t F 0 i c.length st b1 s1:=k2;cases b1 with
  |true =>
   refine⟨n1,true,s1,?_,k2⟩;simp only[Bv,k1,J6]
  |false =>
   have H1:=H.next k2 (sl':=0) (by omega);obtain⟨n2,b2,s2,j1,j2⟩:=Jr l s1 (λk hk=>h k (by simp [hk])) (by have:=k2.s0;omega) H1;refine⟨max n1 n2,b2,s2,?_,k2.trans j2⟩;simp only[Bv,dX (Nat.le_max_left n1 n2) k1,J6];exact yY (λk st r hr=>dX (Nat.le_max_right n1 n2) hr) l s1 _ j1
theorem zL {t:List Int}{F:Int}{g:Goal}{c:aK}{s0:Int} (u7:eg g=0) (hc:jj t c):∀(m:Nat) (st:bJ),(m:Int)<=t.length+1->(∀(k:Nat) (s:bJ),k<m->s0<=s.steps->lW t F k c 0 s->Ends t F 1 (.run g k c) ⟨s.steps,false,[],[]⟩)->s0<=st.steps ->
  0<=st.steps->st.steps<=F+1->st.empty=decide (F<st.steps)->(st.ends.length:Int)<=st.steps->st.ak.length=st.ends.length ->
  ∃n r s',jX (λk st=>gu (gT t F n) g k c st) m st=some (r,s')/\st.steps<=s'.steps/\s'.steps<=F+1/\s'.empty=decide (F<s'.steps)/\s'.ends=st.ends/\s'.ak=st.ak/\(∀d,r=some d->jj t d/\d.length=c.length)
 |0,st,_,_,_,h0,h1,he,hl,hs=>⟨0,none,st,rfl,agn _,h1,he,rfl,rfl,λd h=>(by cases h)⟩
 |m+1,st,hm,h,qj,h0,h1,he,hl,hs=>by
  by_cases hx:st.empty=true
  ·exact⟨0,none,st,by simp only[jX,be hx],agn _,h1,he,rfl,rfl,λd h=>(by cases h)⟩
  have hx:st.empty=false:=by simpa using hx
  have hle:st.steps<=F:=by rw[hx]at he;have:=of_decide_eq_false he.symm;omega
  have H:lW t F (m:Nat) c 0 st:=⟨by omega,by omega,hc,hx,h0,hle,by omega,hs⟩
  obtain⟨n1,r1,s1,k1,k2,k3,k4,k5,k6,k7,k8,_⟩:=qB H (h m st (by omega) qj H) u7;cases r1 with
  |some p =>
   obtain⟨e,d⟩:=p;refine⟨n1,some d,s1,?_,k2,k3,k4,k5,k6,λd' h=>?_⟩
   ·simp only[jX,hx,age,if_false,k1]
   ·cases h;have:=k8 e d rfl;exact⟨this.2.2.1,this.2.2.2⟩
  |none =>
   obtain⟨n2,r2,s2,j1,j2,j3,j4,j5,j6,j7⟩:=zL u7 hc m s1 (by omega) (λk s hk=>h k s (by omega)) (by omega) (by omega) k3 k4 (by rw[k5];omega) (by rw[k5,k6];exact hs);refine⟨max n1 n2,r2,s2,?_,by omega,j3,j4,by rw[j5,k5],by rw[j6,k6],j7⟩;simp only[jX,hx,age,if_false];rw[gV (λm task st r hr=>dX (Nat.le_max_left n1 n2) hr) k1];exact qA (λk st r hr=>gV (λm task st r hr=>dX (Nat.le_max_right n1 n2) hr) hr) m s1 _ j1
theorem jj.with {t:List Int}{c:aK}{n fw to:Int} (h:jj t c) (h0:0<=fw) (h1:fw<=to) (h2:to<=t.length):jj t (ql c n fw to)/\(ql c n fw to).length=c.length:=by
 unfold ql;split
 ·refine⟨⟨by simpa using h.1,λp hp=>?_⟩,by simp⟩;rcases agU hp with hp|rfl
  ·exact h.2 p hp
  ·exact .inr ⟨h0,h1,h2⟩
 ·exact⟨h,rfl⟩
theorem O6 (h:jj t c) (n:Int):QH t (cE c n):=by
 unfold cE;split
 ·exact .inl rfl
 ·rename_i hn;have az:(n-1).toNat<c.length:=by omega
  rw[List.getD,afP az];exact h.2 _ (List.getElem_mem az)
theorem DJ (h:re.every jI=true) (m:Int):(re.ff m).every jI=true:=by rw[Re.aB]at h ⊢;exact⟨h.1,h.2⟩
theorem LX {t:List Int}{i s:Int}{next:Goal} (hn:jG t i s next):∀l:List Re,(∀k∈l,k.every jI=true)->jG t i s (qN l next)
 |[],_=>hn
 |k::l,h=>⟨by omega,h k (by simp),λh=>by omega,λh=>by omega,λh=>by omega,λh=>by omega,LX hn l (λx hx=>h x (by simp [hx]))⟩
theorem lW.le (H:lW t F i c sl s) (h:sl'<=sl):lW t F i c sl' s :=
 ⟨H.i0,H.i1,H.ak,H.empty,H.s0,H.s1,by have:=H.ends;omega,H.same⟩
theorem lW.at{e:Int}{d:aK}{s2:bJ} (H:lW t F i c sl s) (he0:i<=e) (he1:e<=t.length) (hd:jj t d) (h1:s2.ends=s.ends) (h2:s2.ak=s.ak) (h3:s.steps<=s2.steps) (h4:s2.steps<=F) (h5:s2.empty=false) (h6:sl'<=sl+(s2.steps-s.steps)):lW t F e d sl' s2 :=
 ⟨by have:=H.i0;omega,he1,hd,h5,by have:=H.s0;omega,h4,by have:=H.ends;rw[h1];omega,by rw[h1,h2];exact H.same⟩
theorem y7 (h:s.empty=decide (F<s.steps)) (he:s.empty=false):s.steps<=F:=by rw[he]at h;have:=of_decide_eq_false h.symm;omega
theorem No (IH:∀most task s,s1.steps<=s.steps->task.ok t s.steps->lW t F task.pos task.ak task.gW s->Ends t F most task s){next:Goal}
  (hsh:re.every jI=true) (hn:jG t i s1.steps next) (H:lW t F i c 1 s1) :
  ∃n b s',fL t (gT t F n) most re next i c s1=some (b,s')/\dW t F 1 i c.length s1 b s':=by
 obtain⟨h1,h2⟩:=(Re.aB re).1 hsh;obtain⟨Yj,h1b,_,_⟩:=of_decide_eq_true h1;have hi0:=H.i0;have oN:=H.i1
 -- run aeT on at a goal
 have go:∀(g:Goal) (e:Int) (d:aK) (s2:bJ),i<=e->e<=t.length->jj t d->d.length=c.length->s2.ends=s1.ends->s2.ak=s1.ak->s1.steps<=s2.steps->s2.steps<=F->s2.empty=false->jG t e s2.steps g ->
   ∃n b s',gT t F n most (.run g e d) s2=some (b,s')/\dW t F 1 i c.length s1 b s':=by
  intro g e d s2 a1 a2 a3 a4 a5 a6 a7 a8 a9 hg;have hs:=ia g;obtain⟨n,b,s',k1,k2,_⟩:=IH most (.run g e d) s2 a7 hg (H.at (sl':=eg g) a1 a2 a3 a5 a6 a7 a8 a9 (by omega));have k2:dW t F (eg g) e d.length s2 b s':=k2;rw[a4]at k2;have k3:=(k2.FY (sl':=1) hs.2 (agn _)).same (st:=s1) (d:=0) (i:=i) a5 a6 (by omega) (agn _) a1;rw[Int.sub_zero]at k3;exact⟨n,b,s',k1,k3⟩
 have here:∀g,jG t i s1.steps g->∃n b s',gT t F n most (.run g i c) s1=some (b,s')/\dW t F 1 i c.length s1 b s':=λg hg=>go g i c s1 (agn _) oN H.ak rfl rfl rfl (agn _) H.s1 H.empty hg;have no:dW t F 1 i c.length s1 false s1:=.no H.s1 H.empty (by omega)
 -- WC first result of a kid
 have fst:∀(kid:Re) (tail:Goal) (k:Int) (s:bJ),kid.every jI=true->jG t k s.steps tail->s1.steps<=s.steps->lW t F k c 0 s->Ends t F 1 (.run (.mk 0 kid 0 0 tail) k c) ⟨s.steps,false,[],[]⟩:=by intro kid tail k s b1 b2 b3 Hs;refine IH 1 _ _ b3 ⟨by omega,b1,λh=>by omega,λh=>by omega,λh=>by omega,λh=>by omega,b2⟩ ⟨Hs.i0,Hs.i1,Hs.ak,rfl,Hs.s0,Hs.s1,?_,rfl⟩;have:=Hs.s0;simp [Task.gW,eg];omega
 unfold fL;by_cases o1:re.op=1
 ·simp only[be o1];by_cases hc:i<t.length/\E3 re.set (n7 t i)=true
  ·simp only[be hc];have q:=go next (i+1) c s1 (by omega) (by omega) H.ak rfl rfl rfl (agn _) H.s1 H.empty (hn.mono (by omega) (agn _))
   exact q
  ·simp only[ap hc];exact⟨0,false,s1,rfl,no⟩
 simp only[ap o1];by_cases o2:re.op=2
 ·simp only[be o2];exact here _ (LX hn re.kids h2)
 simp only[ap o2];by_cases o3:re.op=3
 ·simp only[be o3];obtain⟨n,b,s',k1,k2⟩:=Jr (most:=most) (next:=next) (s0:=s1.steps) re.kids s1 (λk hk s hs Hs=>IH most _ s hs ⟨by omega,h2 k hk,λh=>by omega,λh=>by omega,λh=>by omega,λh=>by omega,hn.mono (agn _) hs⟩ Hs) (agn _) (H.le (by omega));exact⟨n,b,s',k1,k2.FY (by omega) (agn _)⟩
 simp only[ap o3];by_cases o5:re.op=5
 ·simp only[be o5];cases hk:re.kids with
  |nil=>exact absurd hk (Yj (by omega))
  |cons kid l =>
   exact here _ ⟨by omega,h2 kid (by rw[hk];simp),λh=>by omega,λh=>by omega,λh=>by omega,λh=>by omega,by omega,hsh,λh=>by omega,λh=>by omega,λh=>by omega,λ_=>⟨hi0,agn _⟩,hn⟩
 simp only[ap o5];by_cases o6:re.op=6
 ·simp only[be o6];have oz:=O6 H.ak re.n;generalize cE c re.n=x at *;by_cases c1:x.1<0
  ·simp only[be c1];exact⟨0,false,s1,rfl,no⟩
  simp only[ap c1];have hx:0<=x.1/\x.1<=x.2/\x.2<=t.length:=by
   rcases oz with h|h
   ·rw[h]at c1;exact absurd (by decide) c1
   ·exact h
  simp only[ap (show ¬(x.2<x.1\/(t.length:Int)<x.2) by omega)];by_cases c3:t.length<i+x.2-x.1
  ·simp only[be c3];exact⟨0,false,s1,rfl,no⟩
  simp only[ap c3];by_cases c4:rF t x.1 i (x.2-x.1).toNat=true
  ·simp only[be c4];exact go next (i+x.2-x.1) c s1 (by omega) (by omega) H.ak rfl rfl rfl (agn _) H.s1 H.empty (hn.mono (by omega) (agn _))
  ·simp only[ap c4];exact⟨0,false,s1,rfl,no⟩
 simp only[ap o6];by_cases o7:re.op=7\/re.op=8
 ·simp only[be o7];cases hk:re.kids with
  |nil=>exact absurd hk (Yj (by omega))
  |cons kid l =>
   have Ak:kid.every jI=true:=h2 kid (by rw[hk];simp);have look:∃n r s',rI (gT t F n) re.op kid i c s1=some (r,s')/\s1.steps<=s'.steps/\s'.steps<=F+1/\s'.empty=decide (F<s'.steps)/\s'.ends=s1.ends/\s'.ak=s1.ak/\(∀d,r=some d->jj t d/\d.length=c.length):=by
    unfold rI;by_cases p7:re.op=7
    ·simp only[be p7];obtain⟨n,r,s',k1,k2,k3,k4,k5,k6,k7,k8,_⟩:=qB (H.le (sl':=0) (by omega)) (fst kid .nil i s1 Ak trivial (agn _) (H.le (by omega))) rfl;refine⟨n,r.map (·.2),s',by rw[k1],k2,k3,k4,k5,k6,λd hd=>?_⟩;obtain⟨p,hp,rfl⟩:=Option.map_eq_some_iff.1 hd;have:=k8 p.1 p.2 hp;exact⟨this.2.2.1,this.2.2.2⟩
    ·simp only[ap p7];refine zL (s0:=s1.steps) rfl H.ak _ s1 (by omega) (λk s hk hs Hs=>fst kid _ k s Ak ?_ hs Hs) (agn _) H.s0 (by have:=H.s1;omega) (by rw[H.empty,b6 (by have:=H.s1;omega)]) (by have:=H.ends;omega) H.same;refine⟨by omega,?_,λh=>by omega,λh=>by omega,λh=>by omega,λh=>by omega,trivial⟩;rw[Re.aB];refine⟨bi ⟨λh=>by simp [Re.op]at h,λh=>by simp [Re.op]at h,by simp [Re.set],by simp [Re.kids]⟩,λk hk=>by simp [Re.kids]at hk⟩
   obtain⟨n1,r,s2,k1,k2,k3,k4,k5,k6,k7⟩:=look;by_cases he:s2.empty=true
   ·refine⟨n1,true,s2,?_,⟨k2,k3,k4,λ_=>rfl,[],[],by rw[k5];simp,by rw[k6];simp,rfl,by simp;omega,by simp,by simp⟩⟩;simp only[k1,be he]
   have he:s2.empty=false:=by simpa using he
   have hle:=y7 k4 he;have fno:dW t F 1 i c.length s1 false s2:=⟨k2,k3,k4,λh=>(by rw[he]at h;cases h),[],[],by rw[k5];simp,by rw[k6];simp,rfl,by simp;omega,by simp,by simp⟩
   by_cases dA:re.neg=true
   ·cases r with
    |some d =>
     refine⟨n1,false,s2,?_,fno⟩;simp only[k1,he,age,if_false,be dA]
    |none =>
     obtain⟨n2,b,s',j1,j2⟩:=go next i c s2 (agn _) oN H.ak rfl k5 k6 k2 hle he (hn.mono (agn _) k2)
     refine⟨max n1 n2,b,s',?_,j2⟩;have hm:=vX (rec:=gT t F n1) (rec':=gT t F (max n1 n2)) (λm task st r hr=>dX (Nat.le_max_left n1 n2) hr) k1;simp only[hm,he,age,if_false,be dA];exact dX (Nat.le_max_right n1 n2) j1
   ·cases r with
    |none =>
     refine⟨n1,false,s2,?_,fno⟩;simp only[k1,he,age,if_false,ap dA]
    |some d =>
     obtain⟨q1,q2⟩:=k7 d rfl;obtain⟨n2,b,s',j1,j2⟩:=go next i d s2 (agn _) oN q1 q2 k5 k6 k2 hle he (hn.mono (agn _) k2)
     refine⟨max n1 n2,b,s',?_,j2⟩;have hm:=vX (rec:=gT t F n1) (rec':=gT t F (max n1 n2)) (λm task st r hr=>dX (Nat.le_max_left n1 n2) hr) k1;simp only[hm,he,age,if_false,ap dA];exact dX (Nat.le_max_right n1 n2) j1
 simp only[ap o7];by_cases o9:re.op=9
 ·simp only[be o9];cases hk:re.kids with
  |nil=>exact absurd hk (Yj (by omega))
  |cons kid l =>
   have Ak:kid.every jI=true:=h2 kid (by rw[hk];simp);obtain⟨n1,r,s2,k1,k2,k3,k4,k5,k6,k7,k8,_⟩:=qB (H.le (sl':=0) (by omega)) (fst kid .nil i s1 Ak trivial (agn _) (H.le (by omega))) rfl;by_cases he:s2.empty=true
   ·refine⟨n1,true,s2,?_,⟨k2,k3,k4,λ_=>rfl,[],[],by rw[k5];simp,by rw[k6];simp,rfl,by simp;omega,by simp,by simp⟩⟩;simp only[k1,be he]
   have he:s2.empty=false:=by simpa using he
   have hle:=y7 k4 he;cases r with
   |none =>
    refine⟨n1,false,s2,?_,⟨k2,k3,k4,λh=>(by rw[he]at h;cases h),[],[],by rw[k5];simp,by rw[k6];simp,rfl,by simp;omega,by simp,by simp⟩⟩;simp only[k1,he,age,if_false]
   |some p =>
    obtain⟨e,d⟩:=p;obtain⟨q1,q2,q3,q4⟩:=k8 e d rfl;obtain⟨n2,b,s',j1,j2⟩:=go next e d s2 q1 q2 q3 q4 k5 k6 k2 hle he (hn.mono q1 k2)
    refine⟨max n1 n2,b,s',?_,j2⟩;have hm:=gV (rec:=gT t F n1) (rec':=gT t F (max n1 n2)) (λm task st r hr=>dX (Nat.le_max_left n1 n2) hr) k1;simp only[hm,he,age,if_false];exact dX (Nat.le_max_right n1 n2) j1
 simp only[ap o9];by_cases J2:re.op=10
 ·simp only[be J2];have du:=h1b J2
  match hk:re.kids with
  |[]=>rw[hk]at du;simp at du
  |[_]=>rw[hk]at du;simp at du
  |yes::no'::l =>
   have hy:∀k,k=yes\/k=no'->k.every jI=true:=λk h=>h2 k (by rw[hk];rcases h with rfl|rfl <;> simp);refine here _ ⟨by omega,hy _ ?_,λh=>by omega,λh=>by omega,λh=>by omega,λh=>by omega,hn⟩;split
   ·exact .inl rfl
   ·exact .inr rfl
 simp only[ap J2];by_cases rO:re.op=11
 ·simp only[be rO];by_cases hc:bX re.n t i=true
  ·simp only[be hc];exact here next hn
  ·simp only[ap hc];exact⟨0,false,s1,rfl,no⟩
 simp only[ap rO];exact here next hn
theorem Qw (cI:st.steps<=F) (IH:∀most task s,st.steps<s.steps->task.ok t s.steps->lW t F task.pos task.ak task.gW s->Ends t F most task s){k:Int}{next:Goal}
  (hsh:re.every jI=true) (o4:re.op=4) (eL:0<=k) (Cd:k<=st.steps) (hn:jG t i st.steps next) (hF:F<=1200000000000) (H:lW t F i c 0 st) (hm:re.mode≠2) :
  ∃n b s',yS F (gT t F n) most re k next i c st=some (b,s')/\dW t F 0 i c.length st b s'/\st.steps<s'.steps:=by
 have oN:=H.i1;have qj:=H.s0;obtain⟨h1,h2⟩:=(Re.aB re).1 hsh;obtain⟨Yj,_⟩:=of_decide_eq_true h1;have tm:(st.step F).steps=st.steps+1:=rfl;unfold yS;simp only[ap hm];simp only[ap (show ¬(st.steps<0\/10000000000000<st.steps) by omega)];by_cases he:(st.step F).empty=true
 ·simp only[be he];exact⟨0,true,st.step F,rfl,.out cI he H.empty,by rw[tm];omega⟩
 simp only[ap he];have he:(st.step F).empty=false:=by simpa using he
 have Ys:st.steps+1<=F:=by simp only[bJ.step,H.empty,agr]at he;have:=of_decide_eq_false he;omega
 generalize ez:st.step F=s1 at *;have e1:s1.ends=st.ends:=by rw[<- ez];rfl
 have e2:s1.ak=st.ak:=by rw[<- ez];rfl
 have H1:∀sl,sl<=1->lW t F i c sl s1:=λsl u7=>H.at (agn _) oN H.ak e1 e2 (by omega) (by omega) he (by omega);cases hk:re.kids with
 |nil=>exact absurd hk (Yj (by omega))
 |cons kid l =>
  have Ak:kid.every jI=true:=h2 kid (by rw[hk];simp);have RJ:jG t i s1.steps next:=hn.mono (agn _) (by omega)
  have V6:∀s:bJ,s1.steps<=s.steps->jG t i s.steps (.mk 0 kid 0 0 (.mk 2 re k i next)):=λs hs =>
   ⟨by omega,Ak,λh=>by omega,λh=>by omega,λh=>by omega,λh=>by omega,by omega,hsh,λ_=>o4,λh=>by omega,λ_=>⟨eL,by omega⟩,λh=>by omega,RJ.mono (agn _) hs⟩
  have once:∀s,s1.steps<=s.steps->lW t F i c 0 s->∃n b s',gT t F n most (.run (.mk 0 kid 0 0 (.mk 2 re k i next)) i c) s=some (b,s')/\dW t F 0 i c.length s b s':=λs hs Hs=>by obtain⟨n,b,s',q1,q2,_⟩:=IH most (.run (.mk 0 kid 0 0 (.mk 2 re k i next)) i c) s (by omega) (V6 s hs) Hs;exact⟨n,b,s',q1,q2⟩
  have nxt:∀s,s1.steps<=s.steps->lW t F i c 1 s->∃n b s',gT t F n most (.run next i c) s=some (b,s')/\dW t F 1 i c.length s b s':=λs hs Hs=>by
   have u7:=ia next
   obtain⟨n,b,s',q1,q2,_⟩:=IH most (.run next i c) s (by omega) (RJ.mono (agn _) hs) (Hs.le u7.2);exact⟨n,b,s',q1,q2.FY u7.2 (agn _)⟩
  have fin:∀{b s'},dW t F 1 i c.length s1 b s'->dW t F 0 i c.length st b s'/\st.steps<s'.steps:=λ{b s'} h=>⟨by have:=h.same (st:=st) (d:=1) e1 e2 (by omega) (by omega) (agn _);simpa using this,by have:=h.s0;omega⟩
  simp only;by_cases c2:k<re.mn
  ·simp only[be c2];obtain⟨n,b,s',q1,q2⟩:=once s1 (agn _) (H1 0 (by omega));exact⟨n,b,s',q1,fin (q2.FY (by omega) (agn _))⟩
  simp only[ap c2];have no:∀s,lW t F i c 0 s->dW t F 0 i c.length s false s:=λs Hs=>.no Hs.s1 Hs.empty (agn _);by_cases m1:re.mode=1
  ·simp only[be m1];obtain⟨n1,b1,s2,q1,q2⟩:=nxt s1 (agn _) (H1 1 (agn _));cases b1 with
   |true=>exact⟨n1,true,s2,by rw[q1];rfl,fin q2⟩
   |false =>
    have H2:=(H1 1 (agn _)).next q2 (sl':=0) (by omega);by_cases hM:re.mx=-1\/k<re.mx
    ·simp only[be hM];obtain⟨n2,b2,s3,j1,j2⟩:=once s2 (by have:=q2.s0;omega) H2;refine⟨max n1 n2,b2,s3,?_,fin (by have:=q2.trans j2;simpa using this)⟩;rw[dX (Nat.le_max_left n1 n2) q1];exact dX (Nat.le_max_right n1 n2) j1
    ·simp only[ap hM];exact⟨n1,false,s2,by rw[q1];rfl,fin q2⟩
  ·simp only[ap m1];by_cases hM:re.mx=-1\/k<re.mx
   ·simp only[be hM];obtain⟨n1,b1,s2,q1,q2⟩:=once s1 (agn _) (H1 0 (by omega));cases b1 with
    |true=>exact⟨n1,true,s2,by rw[q1];rfl,fin (q2.FY (by omega) (agn _))⟩
    |false =>
     have H2:=(H1 1 (agn _)).next q2 (sl':=1) (by omega);obtain⟨n2,b2,s3,j1,j2⟩:=nxt s2 (by have:=q2.s0;omega) H2;refine⟨max n1 n2,b2,s3,?_,fin (by have:=q2.trans j2;simpa using this)⟩;rw[dX (Nat.le_max_left n1 n2) q1];exact dX (Nat.le_max_right n1 n2) j1
   ·simp only[ap hM];obtain⟨n1,b1,s2,q1,q2⟩:=nxt s1 (agn _) (H1 1 (agn _));exact⟨n1,b1,s2,q1,fin q2⟩
theorem QT (hF:F<=1200000000000):∀(N r:Nat) (most:Int) (task:Task) (st:bJ),(F+1-st.steps).toNat<=N->task.yJ<=r->task.ok t st.steps->lW t F task.pos task.ak task.gW st->Ends t F most task st:=by
 intro N;induction N with
 |zero=>intro r most task st hN _ _ H;have:=H.s1;omega
 |succ N ihN =>
  intro r
  -- after a step
  have later:∀(st:bJ),(F+1-st.steps).toNat<=N+1->st.steps<=F->∀most task s,st.steps<s.steps->task.ok t s.steps->lW t F task.pos task.ak task.gW s->Ends t F most task s :=
   λst hN hs most task s az fO H=>ihN task.yJ most task s (by omega) (af3 _) fO H
  induction r with
  |zero =>
   intro most task st hN hr fO H;cases task with
   |run g i c =>
    cases g with
    |nil =>
     have hi0:0<=i:=H.i0;have oN:i<=t.length:=H.i1;have mR:=H.ends;have ez:=H.s1;have u7:(Task.run Goal.nil i c).gW=1:=rfl;rw[u7]at mR;refine⟨1,decide (0<=most)&&decide (most<=(st.ends.length:Int)+1),{ st with ends:=st.ends++[i],ak:=st.ak++[c] },?_,?_,λh=>h.elim⟩
     ·show cF t F (gT t F 0) most (.run .nil i c) st=_;simp only[cF];rw[ap (by omega),be ⟨by omega,H.same⟩]
     ·refine⟨agn _,by show st.steps<=F+1;omega,?_,λh=>?_,[i],[c],rfl,rfl,rfl,?_,λe he=>?_,λd hd=>?_⟩
      ·show st.empty=decide (F<st.steps);rw[H.empty,b6 (by omega)]
      ·have h:st.empty=true:=h;rw[H.empty]at h;cases h
      ·rw[u7];show ((1:Nat):Int)<=st.steps-st.steps+1;omega
      ·rw[List.mem_singleton.1 he];exact⟨agn _,oN⟩
      ·rw[List.mem_singleton.1 hd];exact⟨H.ak,rfl⟩
    |mk kind re k fw next =>
     exfalso;simp only[Task.yJ,wV]at hr;split at hr
     ·split at hr <;> omega
     ·split at hr
      ·omega
      ·split at hr <;> omega
   |rep g i c =>
    cases g with
    |nil=>exact fO.elim
    |mk kind re k fw next =>
     exfalso;simp only[Task.yJ]at hr;split at hr <;> omega
   |node g i c=>simp [Task.yJ]at hr
  |succ r ihr =>
   intro most task st hN hr fO H;have hi0:=H.i0;have oN:=H.i1;have qj:=H.s0;have ez:=H.s1;cases task with
   |run g i c =>
    have hi0:0<=i:=hi0;have oN:i<=t.length:=oN;cases g with
    |nil=>exact ihr most _ st hN (ahn _) fO H
    |mk kind re k fw next =>
     obtain⟨g0,g1,g2,g3,g4,g5,g6⟩:=fO;by_cases k1:kind=1
     ·have Vg:Task.yJ (.rep (.mk kind re k fw next) i c)<=r:=by simp only[Task.yJ,wV,be k1]at hr ⊢;split <;> rename_i hm <;> simp only[hm,if_true,if_false]at hr <;> omega
      refine Ends.via (task':=.rep (.mk kind re k fw next) i c) (λrec=>?_) (ihr most _ st hN Vg ⟨g1,g2 (.inl k1),(g3 k1).1,(g3 k1).2,g6⟩ ⟨hi0,oN,H.ak,H.empty,qj,ez,?_,H.same⟩) ?_ (agn _) rfl (λh=>h.2)
      ·simp only[cF];rw[ap (by omega),be k1]
      ·have:=H.ends;have:=(ia (.mk kind re k fw next)).1;simp only[Task.gW]at *;omega
      ·simp [Task.gW];exact(ia _).1
     by_cases k2:kind=2
     ·have u7:eg (.mk kind re k fw next)=0:=by rw[eg,ap (by omega)]
      have mR:=H.ends;simp only[Task.gW,u7]at mR;by_cases c1:re.mn<=k/\i=fw
      ·refine⟨1,false,st,?_,.no ez H.empty (by simp only[Task.gW,u7];omega),λh=>absurd h.1 k1⟩;show cF t F (gT t F 0) most _ st=_;simp only[cF];rw[ap (by omega),ap k1,be k2,be c1]
      ·have hk:=g4 k2;refine Ends.via (task':=.run (.mk 1 re (k+1) 0 next) i c) (λrec=>?_) (ihr most _ st hN ?_ ⟨by omega,g1,λ_=>g2 (.inr k2),λ_=>⟨by omega,by omega⟩,λh=>by omega,λh=>by omega,g6⟩ ⟨hi0,oN,H.ak,H.empty,qj,ez,?_,H.same⟩) ?_ (agn _) rfl (λh=>absurd h.1 k1)
       ·simp only[cF];rw[ap (by omega),ap k1,be k2,ap c1,ap (by omega)]
       ·simp only[Task.yJ,wV]at hr ⊢;rw[ap k1,be k2]at hr;simp only[if_true];split <;> omega
       ·simp [Task.gW,eg];omega
       ·simp only[Task.gW,u7];simp [eg]
     by_cases k3:kind=3
     ·have hf:=g5 k3;have u7:eg (.mk kind re k fw next)=eg next:=by rw[eg,be (.inl k3)]
      obtain⟨w1,w2⟩:=jj.with (n:=re.n) (H.ak:jj t c) hf.1 hf.2 oN;have fK:c.length<=1000000000:=(H.ak:jj t c).1;refine Ends.via (task':=.run next i (ql c re.n fw i)) (λrec=>?_) (ihr most _ st hN ?_ g6 ⟨hi0,oN,w1,H.empty,qj,ez,?_,H.same⟩) ?_ (agn _) w2 (λh=>absurd h.1 k1)
      ·simp only[cF];rw[ap (by omega),ap k1,ap k2,be k3,ap (by omega)]
      ·simp only[Task.yJ]at hr ⊢;rw[wV,ap k1,ap k2,be (.inl k3)]at hr;omega
      ·have:=H.ends;simp only[Task.gW,u7]at this ⊢;exact this
      ·simp only[Task.gW,u7];exact agn _
     by_cases k4:kind=4
     ·have u7:eg (.mk kind re k fw next)=eg next:=by rw[eg,be (.inr k4)]
      by_cases c1:i=fw
      ·refine Ends.via (task':=.run next i c) (λrec=>?_) (ihr most _ st hN ?_ g6 ⟨hi0,oN,H.ak,H.empty,qj,ez,?_,H.same⟩) ?_ (agn _) rfl (λh=>absurd h.1 k1)
       ·simp only[cF];rw[ap (by omega),ap k1,ap k2,ap k3,be k4,be c1]
       ·simp only[Task.yJ]at hr ⊢;rw[wV,ap k1,ap k2,be (.inr k4)]at hr;omega
       ·have:=H.ends;simp only[Task.gW,u7]at this ⊢;exact this
       ·simp only[Task.gW,u7];exact agn _
      ·refine⟨1,false,st,?_,.no ez H.empty (ia _).1,λh=>absurd h.1 k1⟩;show cF t F (gT t F 0) most _ st=_;simp only[cF];rw[ap (by omega),ap k1,ap k2,ap k3,be k4,ap c1]
     have u7:eg (.mk kind re k fw next)=0:=by rw[eg,ap (by omega)]
     refine Ends.via (task':=.node (.mk kind re k fw next) i c) (λrec=>?_) (ihr most _ st hN ?_ ⟨g1,g6⟩ ⟨hi0,oN,H.ak,H.empty,qj,ez,?_,H.same⟩) ?_ (agn _) rfl (λh=>absurd h.1 k1)
     ·simp only[cF];rw[ap (by omega),ap k1,ap k2,ap k3,ap k4]
     ·simp only[Task.yJ]at hr ⊢;rw[wV,ap k1,ap k2,ap (by omega)]at hr;omega
     ·have:=H.ends;simp only[Task.gW,u7]at this ⊢;exact this
     ·simp only[Task.gW,u7];exact agn _
   |rep g i c =>
    have hi0:0<=i:=hi0;have oN:i<=t.length:=oN;cases g with
    |nil=>exact fO.elim
    |mk kind re k fw next =>
     obtain⟨g1,g2,g3,g4,g5⟩:=fO;have mR:(st.ends.length:Int)+0<=st.steps:=H.ends;by_cases hm:re.mode=2
     ·have hf:=qB (t:=t) (F:=F) (g:=.mk 1 (re.ff 0) 0 0 .nil) (i:=i) (c:=c) (sl:=0) (st:=st) ⟨hi0,oN,H.ak,H.empty,qj,ez,mR,H.same⟩
       (ihr 1 _ _ (by simpa using hN) (by
        simp only[Task.yJ,wV]at hr ⊢;simp only[hm,if_true]at hr;have cB:¬(re.ff 0).mode=2:=by simp [Re.ff,Re.mode]
        simp only[if_true];rw[ap cB];omega) ⟨by omega,DJ g1 0,λ_=>g2,λ_=>⟨agn _,qj⟩,λh=>by omega,λh=>by omega,trivial⟩ ⟨hi0,oN,H.ak,rfl,qj,ez,(by simp [Task.gW,eg];exact qj),rfl⟩) (by simp [eg])
      obtain⟨n1,r1,s1,j1,j2,j3,j4,j5,j6,j7,j8,j9⟩:=hf;have az:st.steps<s1.steps:=j9 ⟨rfl,by simp [Re.ff,Re.mode]⟩;have MJ:¬(Task.rep (.mk kind re k fw next) i c).Ce:=λh=>h hm;have NQ:∀n r',yS F (gT t F n) most re k next i c st=r'->gT t F (n+1) most (.rep (.mk kind re k fw next) i c) st=r':=λn r' h=>by show cF t F (gT t F n) most _ st=_;simp only[cF];rw[ap (by omega)];exact h
      cases r1 with
      |none =>
       refine⟨n1+1,s1.empty,s1,NQ n1 _ ?_,⟨j2,j3,j4,λh=>h,[],[],by rw[j5];simp,by rw[j6];simp,rfl,by simp [Task.gW];omega,by simp,by simp⟩,λh=>(MJ h).elim⟩;unfold yS;rw[be hm,j1]
      |some p =>
       obtain⟨e,d⟩:=p;obtain⟨q1,q2,q3,q4⟩:=j8 e d rfl;have he:s1.empty=false:=by
        cases hx:s1.empty with
        |false=>rfl
        |true=>have:=j7 hx;cases this
       have hle:=y7 j4 he;have u7:=ia next
       obtain⟨n2,b,s',l1,l2,_⟩:=later st hN ez most (.run next e d) s1 az (g5.mono q1 j2) ⟨aho hi0 q1,q2,q3,he,by omega,hle,by rw[j5];simp only[Task.gW];omega,by rw[j5,j6];exact H.same⟩;have l2:dW t F (eg next) e d.length s1 b s':=l2;rw[q4]at l2;have l3:=(l2.FY (sl':=1) u7.2 (agn _)).same (st:=st) (d:=1) (i:=i) j5 j6 (by omega) (by omega) q1;refine⟨max n1 n2+1,b,s',NQ _ _ ?_,(show dW t F 0 i c.length st b s' by simpa using l3),λh=>(MJ h).elim⟩;unfold yS;have hmn:=gV (rec:=gT t F n1) (rec':=gT t F (max n1 n2)) (λm task st r hr=>dX (Nat.le_max_left n1 n2) hr) j1;rw[be hm,hmn];exact dX (Nat.le_max_right n1 n2) l1
     ·obtain⟨n,b,s',q1,q2,q3⟩:=Qw ez (later st hN ez) (most:=most) g1 g2 g3 g4 g5 hF (⟨hi0,oN,H.ak,H.empty,qj,ez,mR,H.same⟩:lW t F i c 0 st) hm;refine⟨n+1,b,s',?_,q2,λ_=>q3⟩;show cF t F (gT t F n) most _ st=_;simp only[cF];rw[ap (by omega)];exact q1
   |node g i c =>
    have hi0:0<=i:=hi0;have oN:i<=t.length:=oN;cases g with
    |nil=>exact fO.elim
    |mk kind re k fw next =>
     obtain⟨g1,g6⟩:=fO;have mR:(st.ends.length:Int)+0<=st.steps:=H.ends;obtain⟨h1,h2⟩:=(Re.aB re).1 g1;obtain⟨_,_,h1c,h1d⟩:=of_decide_eq_true h1;have fK:c.length<=1000000000:=(H.ak:jj t c).1;by_cases o4:re.op=4
     ·refine Ends.via (task':=.rep (.mk 1 re 0 0 next) i c) (λrec=>?_) (ihr most _ st hN ?_ ⟨g1,o4,agn _,qj,g6⟩ ⟨hi0,oN,H.ak,H.empty,qj,ez,mR,H.same⟩) (agn _) (agn _) rfl (λh=>absurd o4 h)
      ·simp only[cF];rw[ap (by omega),be o4]
      ·simp only[Task.yJ]at hr ⊢;split <;> omega
     ·have tm:(st.step F).steps=st.steps+1:=rfl;have NQ:∀n,gT t F (n+1) most (.node (.mk kind re k fw next) i c) st=if (st.step F).empty then some (true,st.step F) else fL t (gT t F n) most re next i c (st.step F):=λn=>by show cF t F (gT t F n) most _ st=_;simp only[cF];rw[ap (by omega),ap o4,ap (by omega),ap (by omega)]
      by_cases he:(st.step F).empty=true
      ·refine⟨1,true,st.step F,?_,.out ez he H.empty,λ_=>by rw[tm];omega⟩;rw[NQ 0,be he]
      ·have zO:(st.step F).empty=false:=by simpa using he
       have Ys:st.steps+1<=F:=by simp only[bJ.step,H.empty,agr]at zO;have:=of_decide_eq_false zO;omega
       have H1:lW t F i c 1 (st.step F):=⟨hi0,oN,H.ak,zO,by rw[tm];omega,by rw[tm];omega,by rw[tm];show (st.ends.length:Int)+1<=st.steps+1;omega,H.same⟩
       obtain⟨n,b,s',q1,q2⟩:=No (λmost task s hs aab H'=>later st hN ez most task s (by rw[tm]at hs;omega) aab H') (most:=most) g1 (g6.mono (agn _) (by rw[tm];omega)) H1;refine⟨n+1,b,s',?_,(show dW t F 0 i c.length st b s' by simpa using q2.step),λ_=>by have:=q2.s0;rw[tm]at this;omega⟩;rw[NQ n,ap he];exact q1
def Mk.has (m:Mk) (u:Int):Bool:=decide (0<ew .and .i64 m.cu u)
def Re.node (op:Int) (kids:List Re):Re:=.mk op [] kids 0 0 0 0 false
def bt (t:Mk->Re×Mk):Nat->Int->Mk->List Re×Mk
 |0,_,m=>([],m)
 |f+1,i,m =>
  if i<2+(m.next 2).1 then
   (((t (m.next 2).2).1)::(bt t f (i+1) (t (m.next 2).2).2).1,(bt t f (i+1) (t (m.next 2).2).2).2)
  else ([],(m.next 2).2)
def mo:List Int:=[0,0,0,0,1,1,1,0,2,0,1,2]
def jZ:List Int:=[-1,-1,-1,1,-1,-1,2,2,2,3,1,-1]
def iH (m:Mk):Int×Mk :=
 let x:=m.next 2
 if m.has 8 then (if (x.2.next 4).1=0 then 2 else x.1,(x.2.next 4).2) else x
def lC (t:Mk->Re×Mk) (m:Mk):Re×Mk :=
 let x:=t m
 if ew .and .i64 x.2.cu 32=0/\x.1.vl=true then x.2.set else x
def Mk.rep (t:Mk->Re×Mk) (m:Mk):Re×Mk :=
 let k:=m.next 12;let md:=iH k.2;let kid:=lC t md.2
 (.mk 4 [] [kid.1] ((mo[k.1.toNat]?).getD 0) ((jZ[k.1.toNat]?).getD 0) md.1 0 false,kid.2)
def eG (m:Mk):Int×Mk :=
 let again (m:Mk):Int×Mk:=(1+(m.next (max 1 m.ak)).1,(m.next (max 1 m.ak)).2)
 if 4<m.ak+1 then again m
 else if 0<m.ak then (if (m.next 9).1=0 then again (m.next 9).2 else (m.ak+1,(m.next 9).2))
 else (m.ak+1,m)
def Mk.kX (m:Mk) (c:Int):Mk:=⟨m.l,m.pos,m.cu,m.left,c⟩
def Mk.less (m:Mk):Mk:=⟨m.l,m.pos,m.cu,m.left-1,m.ak⟩
def Mk.iJ (t:Mk->Re×Mk) (m:Mk):Re×Mk :=
 let c:=eG m;let r:=t (c.2.kX (max c.2.ak c.1))
 (.mk 5 [] [r.1] 0 0 0 c.1 false,r.2)
def Mk.node (t:Mk->Re×Mk) (k:Int) (m:Mk):Re×Mk :=
 if k<5 then (Re.node 2 (bt t 4 0 m).1,(bt t 4 0 m).2)
 else if k<8 then (Re.node 3 (bt t 4 0 m).1,(bt t 4 0 m).2)
 else if k<12 then m.rep t
 else if k=12/\m.has 64=true then m.iJ t
 else if k=13/\m.has 64=true then m.iJ t
 else if k=14/\m.has 16=true then (.mk 11 [] [] 0 0 0 (m.next 6).1 false,(m.next 6).2)
 else if k=15/\m.has 4=true then
  let y:=(m.next 3).2.next 2
  (.mk (7+y.1) [] [(t y.2).1] 0 0 0 0 (decide ((m.next 3).1=0)),(t y.2).2)
 else if k=16/\m.has 8=true then (Re.node 9 [(t m).1],(t m).2)
 else if k=17/\m.has 1=true/\0<m.ak then (.mk 6 [] [] 0 0 0 (1+(m.next m.ak).1) false,(m.next m.ak).2)
 else if k=18/\m.has 2=true/\0<m.ak then
  let x:=m.next m.ak;let y:=t x.2;let z:=t y.2
  (.mk 10 [] [y.1,z.1] 0 0 0 (1+x.1) false,z.2)
 else m.set
def Mk.tree:Nat->Mk->Re×Mk
 |0,m =>
  let x:=m.less.next 20
  if x.1=0 then (Re.node 0 [],x.2) else x.2.set
 |d+1,m =>
  let x:=m.less.next 20
  if x.2.left<3\/(x.2.l.length:Int)<x.2.pos then (if x.1=0 then (Re.node 0 [],x.2) else x.2.set)
  else x.2.node (Mk.tree d) x.1
structure Mk.In (m:Mk) (b:Int):Prop where
 l:∀x∈m.l,jC x
 p0:0<=m.pos
 p1:m.pos<=b
 l0:-b<=m.left
 l1:m.left<=1000000
 c0:0<=m.ak
 c1:m.ak<=4
theorem Mk.In.mono{b':Int} (h:m.In b) (hb:b<=b'):m.In b' :=
 ⟨h.l,h.p0,by have:=h.p1;omega,by have:=h.l0;omega,h.l1,h.c0,h.c1⟩
theorem Mk.In.next (h:m.In b) (n:Int):(m.next n).2.In (b+1) :=
 ⟨h.l,by have:=h.p0;simp only[Mk.next];omega,by have:=h.p1;simp only[Mk.next];omega,by have:=h.l0;simp only[Mk.next];omega,h.l1,h.c0,h.c1⟩
theorem Mk.In.set (h:m.In b):m.set.2.In (b+1):=h.next 15
def Good (t:Mk->Re×Mk) (c z:Int):Prop:=∀m b,0<=b->Mk.In m b->(t m).2.In (b+c)/\((t m).1.size:Int)<=z
theorem ri (s:List (Int×Int)):(Re.QW s).size=1:=rfl
theorem vA {t:Mk->Re×Mk}{c z:Int} (hc:0<=c) (ht:Good t c z):∀(f:Nat) (i:Int) (m:Mk) (b:Int),0<=b->m.In b ->
  (bt t f i m).2.In (b+f*(c+1))/\(Re.bZ (bt t f i m).1:Int)<=((bt t f i m).1.length:Int)*z/\(bt t f i m).1.length<=f
 |0,i,m,b,_,h=>by simp only[bt];exact⟨by simpa using h,by simp [Re.bZ],by simp⟩
 |f+1,i,m,b,hb,h=>by
  simp only[bt];have hf:(0:Int)<=f*(c+1):=ahm (by omega) (by omega);have e:((f+1:Nat):Int)*(c+1)=f*(c+1)+c+1:=by rw[ag2,Int.add_mul];simp;omega
  split
  ·have h1:=h.next 2;obtain⟨h2,h3⟩:=ht _ (b+1) (by omega) h1;obtain⟨h4,h5,h6⟩:=vA hc ht f (i+1) _ (b+1+c) (by omega) h2;refine⟨h4.mono (by omega),?_,by simpa using h6⟩;simp only[Re.bZ,afZ,ag2,Int.add_mul];omega
  ·exact⟨(h.next 2).mono (by omega),by simp [Re.bZ],by simp⟩
theorem CU (h:m.In b):(iH m).2.In (b+2):=by
 unfold iH;simp only;split
 ·have:=(h.next 2).next 4;rwa [show b+1+1=b+2 by omega]at this
 ·exact(h.next 2).mono (by omega)
theorem HS {t:Mk->Re×Mk}{c:Int} (hc:0<=c) (hz:1<=z) (ht:Good t c z):Good (lC t) (c+1) z:=by
 intro m b hb h;obtain⟨h1,h2⟩:=ht m b hb h;unfold lC;simp only;split
 ·exact⟨by have:=h1.set;rwa [agQ]at this,by simp only[Mk.set];rw[ri];omega⟩
 ·exact⟨h1.mono (by omega),h2⟩
theorem sy (op mn mx mode n:Int) (neg:Bool) (k:Re):((Re.mk op [] [k] mn mx mode n neg).size:Int)=1+k.size:=by simp [Re.size,Re.bZ]
theorem Pw {t:Mk->Re×Mk}{c:Int} (hc:0<=c) (hz:1<=z) (ht:Good t c z):Good (Mk.rep t) (c+4) (z+1):=by intro m b hb h;have h1:=CU (h.next 12);obtain⟨h2,h3⟩:=HS hc hz ht _ _ (by omega) h1;simp only[Mk.rep];exact⟨h2.mono (by omega),by rw[sy];omega⟩
theorem zc (h:m.In b):(eG m).2.In (b+2)/\(eG m).2.ak=m.ak/\1<=(eG m).1/\(eG m).1<=4:=by
 have h0:=h.c0;have h1:=h.c1;have again:∀(m':Mk),m'.ak=m.ak->0<m.ak->0<=pick m'.l m'.pos (max 1 m'.ak)/\pick m'.l m'.pos (max 1 m'.ak)<m.ak:=by intro m' he hp;have:=cb m'.l m'.pos (max 1 m'.ak) (by omega);rw[he]at this ⊢;omega
 unfold eG;simp only;split
 ·have:=again m rfl (by omega);exact⟨(h.next (max 1 m.ak)).mono (by omega),rfl,by simp only[Mk.next];omega,by simp only[Mk.next];omega⟩
 ·split
  ·split
   ·have:=again (m.next 9).2 rfl (by omega);refine⟨?_,rfl,by simp only[Mk.next]at this ⊢;omega,by simp only[Mk.next]at this ⊢;omega⟩;have h2:=(h.next 9).next (max 1 (m.next 9).2.ak);rwa [show b+1+1=b+2 by omega]at h2
   ·exact⟨(h.next 9).mono (by omega),rfl,by omega,by omega⟩
  ·exact⟨h.mono (by omega),rfl,by omega,by omega⟩
theorem xN {t:Mk->Re×Mk}{c:Int} (hc:0<=c) (ht:Good t c z):Good (Mk.iJ t) (c+2) (z+1):=by intro m b hb h;obtain⟨h1,h2,h3,h4⟩:=zc h;simp only[Mk.iJ];obtain⟨h5,h6⟩:=ht ((eG m).2.kX (max (eG m).2.ak (eG m).1)) (b+2) (by omega) ⟨h1.l,h1.p0,h1.p1,h1.l0,h1.l1,by show 0<=max _ _;omega,by have:=h.c1;show max _ _<=4;omega⟩;exact⟨h5.mono (by omega),by rw[sy];omega⟩
theorem NG {t:Mk->Re×Mk}{c:Int} (hc:0<=c) (hz:1<=z) (ht:Good t c z) (k:Int):Good (Mk.node t k) (4*(c+1)) (4*z+1):=by
 intro m b hb h;obtain⟨a1,a2,a3⟩:=vA hc ht 4 0 m b hb h;have a2':(Re.bZ (bt t 4 0 m).1:Int)<=4*z:=by have:((bt t 4 0 m).1.length:Int)*z<=4*z:=agB (by omega) (by omega);omega
 have a1':(bt t 4 0 m).2.In (b+4*(c+1)):=a1;have sz:∀op,((Re.node op (bt t 4 0 m).1).size:Int)<=4*z+1:=by intro op;simp only[Re.node,Re.size];omega
 unfold Mk.node;split
 ·exact⟨a1',sz _⟩
 split
 ·exact⟨a1',sz _⟩
 split
 ·obtain⟨h1,h2⟩:=Pw hc hz ht m b hb h;exact⟨h1.mono (by omega),by omega⟩
 split
 ·obtain⟨h1,h2⟩:=xN hc ht m b hb h;exact⟨h1.mono (by omega),by omega⟩
 split
 ·obtain⟨h1,h2⟩:=xN hc ht m b hb h;exact⟨h1.mono (by omega),by omega⟩
 split
 ·exact⟨(h.next 6).mono (by omega),by simp [Re.size,Re.bZ];omega⟩
 split
 ·simp only;obtain⟨h1,h2⟩:=ht _ (b+1+1) (by omega) ((h.next 3).next 2);exact⟨h1.mono (by omega),by rw[sy];omega⟩
 split
 ·obtain⟨h1,h2⟩:=ht m b hb h;exact⟨h1.mono (by omega),by simp only[Re.node];rw[sy];omega⟩
 split
 ·exact⟨(h.next m.ak).mono (by omega),by simp [Re.size,Re.bZ];omega⟩
 split
 ·simp only;obtain⟨h1,h2⟩:=ht _ (b+1) (by omega) (h.next m.ak);obtain⟨h3,h4⟩:=ht _ (b+1+c) (by omega) h1;exact⟨h3.mono (by omega),by simp only[Re.size,Re.bZ];omega⟩
 ·exact⟨h.set.mono (by omega),by simp only[Mk.set];rw[ri];omega⟩
def cD:Nat->Int
 |0=>3
 |d+1=>2+4*(cD d+1)
def zD:Nat->Int
 |0=>1
 |d+1=>4*zD d+1
theorem bN:∀d,3<=cD d
 |0=>by simp [cD]
 |d+1=>by have:=bN d;simp only[cD];omega
theorem yR:∀d,1<=zD d
 |0=>by simp [zD]
 |d+1=>by have:=yR d;simp only[zD];omega
theorem Mk.In.left (h:m.In b):m.less.In (b+1) :=
 ⟨h.l,h.p0,by have:=h.p1;show m.pos<=_;omega,by have:=h.l0;show _<=m.left-1;omega,by have:=h.l1;show m.left-1<=_;omega,h.c0,h.c1⟩
theorem jw:∀d,Good (Mk.tree d) (cD d) (zD d)
 |0=>by
  intro m b hb h;have h1:=h.left.next 20;simp only[Mk.tree,cD,zD];split
  ·exact⟨h1.mono (by omega),by simp [Re.node,Re.size,Re.bZ]⟩
  ·exact⟨h1.set.mono (by omega),by simp only[Mk.set];rw[ri];omega⟩
 |d+1=>by
  intro m b hb h;have h1:=h.left.next 20;have hc:=bN d;have hz:=yR d;simp only[Mk.tree,cD,zD];split
  ·split
   ·exact⟨h1.mono (by omega),by simp [Re.node,Re.size,Re.bZ];omega⟩
   ·exact⟨h1.set.mono (by omega),by simp only[Mk.set];rw[ri];omega⟩
  ·obtain⟨h2,h3⟩:=NG (by omega) hz (jw d) ((m.less.next 20).1) _ (b+1+1) (by omega) h1;exact⟨h2.mono (by omega),h3⟩
end Go.Proofs.Ytfmdmlfhigocaaa
