/- A part of the proof (G15 G16 G17). -/
import Derived.Test.YtphfjhaffbfpfaaPM7
set_option linter.all false
set_option maxRecDepth 100000
set_option maxHeartbeats 80000000
namespace Go.Proofs.Ytphfjhaffbfpfaa
open Go.VL Go.Proofs.Try
variable{st:bd}{t:List Int}{s1:bd}{F:Int}{sl:Int}{i:Int}{c:aC}{sl':Int}{ai:Int}{re:Re}{s:bd}
theorem eo.same{e d:Int}{nc:Nat}{st':bd}{b:Bool} (h:eo t F sl e nc s1 b st') (he:s1.ends=st.ends) (hc:s1.ah=st.ah) (hs:st.steps+d<=s1.steps) (hd:0<=d) (hi:i<=e):eo t F (sl-d) i nc st b st':=by obtain⟨new,mR,h1,h2,h3,h4,h5,h6⟩:=h.more;exact⟨by have:=h.s0;omega,h.s1,h.empty,h.full,new,mR,by rw[h1,he],by rw[h2,hc],h3,by omega,λx hx=>⟨by have:=h5 x hx;omega,(h5 x hx).2⟩,h6⟩
theorem kP.next{slp:Int} (H:kP t F i c sl st) (h:eo t F slp i c.length st false s1) (hs:slp+sl'<=sl):kP t F i c sl' s1:=by
 have he:s1.empty=false:=by
  cases hx:s1.empty with
  |false=>rfl
  |true=>have:=h.full hx;cases this
 have hd:=h.empty;rw[he]at hd;have hle:s1.steps<=F:=by have:=of_decide_eq_false hd.symm;omega
 obtain⟨new,mR,h1,h2,h3,h4,h5,h6⟩:=h.more;refine⟨H.i0,H.i1,H.ah,he,by have:=H.s0;have:=h.s0;omega,hle,?_,?_⟩
 ·have:=H.ends;rw[h1,adx,aef];omega
 ·rw[h1,h2,adx,adx,h3,H.same]
theorem Ends.via{task task':Task} (heq:∀rec,bL t F rec ai task st=rec ai task' st) (h:Ends t F ai task' st) (h1:task'.gH<=task.gH) (h2:task.pos<=task'.pos) (h3:task'.ah.length=task.ah.length)
  (h4:task.yT->task'.yT):Ends t F ai task st:=by
 obtain⟨n,b,st',k1,k2,k3⟩:=h;exact⟨n+1,b,st',by show bL t F (dO t F n) ai task st=_;rw[heq];exact k1,(h3 ▸ k2.oX h1 h2),λhs=>k3 (h4 hs)⟩
theorem FP {t:List Int}{F ai:Int}{i:Int}{c:aC}{next:Goal}{s0:Int}:∀(l:List Re) (st:bd),(∀k∈l,∀s:bd,s0<=s.steps->kP t F i c 0 s->Ends t F ai (.run (.mk 0 k 0 0 next) i c) s)->s0<=st.steps->kP t F i c 0 st ->
  ∃n b s',lL (λk st=>dO t F n ai (.run (.mk 0 k 0 0 next) i c) st) l st=some (b,s')/\eo t F 0 i c.length st b s'
 |[],st,_,_,H=>⟨0,false,st,rfl,.no H.s1 H.empty (ady _)⟩
 |k::l,st,h,hs,H=>by
  obtain⟨n1,b1,s1,k1,k2,_⟩:=h k (by simp) st hs H;have k2:eo t F 0 i c.length st b1 s1:=k2;cases b1 with
  |true =>
   refine⟨n1,true,s1,?_,k2⟩;simp only[lL,k1,mz]
  |false =>
   have H1:=H.next k2 (sl':=0) (by omega);obtain⟨n2,b2,s2,j1,j2⟩:=FP l s1 (λk hk=>h k (by simp [hk])) (by have:=k2.s0;omega) H1;refine⟨max n1 n2,b2,s2,?_,k2.trans j2⟩;simp only[lL,eu (Nat.le_max_left n1 n2) k1,mz];exact wP (λk st r hr=>eu (Nat.le_max_right n1 n2) hr) l s1 _ j1
theorem xi {t:List Int}{F:Int}{g:Goal}{c:aC}{s0:Int} (sO:ey g=0) (hc:dj t c):∀(m:Nat) (st:bd),(m:Int)<=t.length+1->(∀(k:Nat) (s:bd),k<m->s0<=s.steps->kP t F k c 0 s->Ends t F 1 (.run g k c) ⟨s.steps,false,[],[]⟩)->s0<=st.steps ->
  0<=st.steps->st.steps<=F+1->st.empty=decide (F<st.steps)->(st.ends.length:Int)<=st.steps->st.ah.length=st.ends.length ->
  ∃n r s',cz (λk st=>bS (dO t F n) g k c st) m st=some (r,s')/\st.steps<=s'.steps/\s'.steps<=F+1/\s'.empty=decide (F<s'.steps)/\s'.ends=st.ends/\s'.ah=st.ah/\(∀d,r=some d->dj t d/\d.length=c.length)
 |0,st,_,_,_,h0,h1,he,hl,hs=>⟨0,none,st,rfl,ady _,h1,he,rfl,rfl,λd h=>(by cases h)⟩
 |m+1,st,hm,h,fW,h0,h1,he,hl,hs=>by
  by_cases hx:st.empty=true
  ·exact⟨0,none,st,by simp only[cz,ap hx],ady _,h1,he,rfl,rfl,λd h=>(by cases h)⟩
  have hx:st.empty=false:=by simpa using hx
  have hle:st.steps<=F:=by rw[hx]at he;have:=of_decide_eq_false he.symm;omega
  have H:kP t F (m:Nat) c 0 st:=⟨by omega,by omega,hc,hx,h0,hle,by omega,hs⟩
  obtain⟨n1,r1,s1,k1,k2,k3,k4,k5,k6,k7,k8,_⟩:=qi H (h m st (by omega) fW H) sO;cases r1 with
  |some p =>
   obtain⟨e,d⟩:=p;refine⟨n1,some d,s1,?_,k2,k3,k4,k5,k6,λd' h=>?_⟩
   ·simp only[cz,hx,adq,if_false,k1]
   ·cases h;have:=k8 e d rfl;exact⟨this.2.2.1,this.2.2.2⟩
  |none =>
   obtain⟨n2,r2,s2,j1,j2,j3,j4,j5,j6,j7⟩:=xi sO hc m s1 (by omega) (λk s hk=>h k s (by omega)) (by omega) (by omega) k3 k4 (by rw[k5];omega) (by rw[k5,k6];exact hs);refine⟨max n1 n2,r2,s2,?_,by omega,j3,j4,by rw[j5,k5],by rw[j6,k6],j7⟩;simp only[cz,hx,adq,if_false];rw[gD (λm task st r hr=>eu (Nat.le_max_left n1 n2) hr) k1];exact pL (λk st r hr=>gD (λm task st r hr=>eu (Nat.le_max_right n1 n2) hr) hr) m s1 _ j1
theorem dj.with {t:List Int}{c:aC}{n cq to:Int} (h:dj t c) (h0:0<=cq) (h1:cq<=to) (h2:to<=t.length):dj t (kD c n cq to)/\(kD c n cq to).length=c.length:=by
 unfold kD;split
 ·refine⟨⟨by simpa using h.1,λp hp=>?_⟩,by simp⟩;rcases List.mem_or_eq_of_mem_set hp with hp|rfl
  ·exact h.2 p hp
  ·exact .inr ⟨h0,h1,h2⟩
 ·exact⟨h,rfl⟩
theorem Hb (h:dj t c) (n:Int):Nc t (bH c n):=by
 unfold bH;split
 ·exact .inl rfl
 ·rename_i hn;have aH:(n-1).toNat<c.length:=by omega
  rw[List.getD,adn aH];exact h.2 _ (List.getElem_mem aH)
theorem Be (h:re.every ja=true) (m:Int):(re.db m).every ja=true:=by rw[Re.aQ]at h ⊢;exact⟨h.1,h.2⟩
theorem KK {t:List Int}{i s:Int}{next:Goal} (hn:iY t i s next):∀l:List Re,(∀k∈l,k.every ja=true)->iY t i s (ft l next)
 |[],_=>hn
 |k::l,h=>⟨by omega,h k (by simp),λh=>by omega,λh=>by omega,λh=>by omega,λh=>by omega,KK hn l (λx hx=>h x (by simp [hx]))⟩
theorem kP.le (H:kP t F i c sl s) (h:sl'<=sl):kP t F i c sl' s :=
 ⟨H.i0,H.i1,H.ah,H.empty,H.s0,H.s1,by have:=H.ends;omega,H.same⟩
theorem kP.at{e:Int}{d:aC}{s2:bd} (H:kP t F i c sl s) (VG:i<=e) (nj:e<=t.length) (hd:dj t d) (h1:s2.ends=s.ends) (h2:s2.ah=s.ah) (h3:s.steps<=s2.steps) (h4:s2.steps<=F) (h5:s2.empty=false) (h6:sl'<=sl+(s2.steps-s.steps)):kP t F e d sl' s2 :=
 ⟨by have:=H.i0;omega,nj,hd,h5,by have:=H.s0;omega,h4,by have:=H.ends;rw[h1];omega,by rw[h1,h2];exact H.same⟩
theorem xa (h:s.empty=decide (F<s.steps)) (he:s.empty=false):s.steps<=F:=by rw[he]at h;have:=of_decide_eq_false h.symm;omega
theorem Ml (IH:∀ai task s,s1.steps<=s.steps->task.ok t s.steps->kP t F task.pos task.ah task.gH s->Ends t F ai task s){next:Goal}
  (hsh:re.every ja=true) (hn:iY t i s1.steps next) (H:kP t F i c 1 s1) :
  ∃n b s',dw t (dO t F n) ai re next i c s1=some (b,s')/\eo t F 1 i c.length s1 b s':=by
 obtain⟨h1,h2⟩:=(Re.aQ re).1 hsh;obtain⟨Vl,h1b,_,_⟩:=of_decide_eq_true h1;have hi0:=H.i0;have fD:=H.i1
 -- run ab7 on at a goal
 have go:∀(g:Goal) (e:Int) (d:aC) (s2:bd),i<=e->e<=t.length->dj t d->d.length=c.length->s2.ends=s1.ends->s2.ah=s1.ah->s1.steps<=s2.steps->s2.steps<=F->s2.empty=false->iY t e s2.steps g ->
   ∃n b s',dO t F n ai (.run g e d) s2=some (b,s')/\eo t F 1 i c.length s1 b s':=by
  intro g e d s2 a1 a2 a3 a4 a5 a6 a7 a8 a9 hg;have hs:=gP g;obtain⟨n,b,s',k1,k2,_⟩:=IH ai (.run g e d) s2 a7 hg (H.at (sl':=ey g) a1 a2 a3 a5 a6 a7 a8 a9 (by omega));have k2:eo t F (ey g) e d.length s2 b s':=k2;rw[a4]at k2;have k3:=(k2.oX (sl':=1) hs.2 (ady _)).same (st:=s1) (d:=0) (i:=i) a5 a6 (by omega) (ady _) a1;rw[Int.sub_zero]at k3;exact⟨n,b,s',k1,k3⟩
 have here:∀g,iY t i s1.steps g->∃n b s',dO t F n ai (.run g i c) s1=some (b,s')/\eo t F 1 i c.length s1 b s':=λg hg=>go g i c s1 (ady _) fD H.ah rfl rfl rfl (ady _) H.s1 H.empty hg;have no:eo t F 1 i c.length s1 false s1:=.no H.s1 H.empty (by omega)
 -- JL first result of a aL
 have fst:∀(aL:Re) (tail:Goal) (k:Int) (s:bd),aL.every ja=true->iY t k s.steps tail->s1.steps<=s.steps->kP t F k c 0 s->Ends t F 1 (.run (.mk 0 aL 0 0 tail) k c) ⟨s.steps,false,[],[]⟩:=by intro aL tail k s b1 b2 b3 Hs;refine IH 1 _ _ b3 ⟨by omega,b1,λh=>by omega,λh=>by omega,λh=>by omega,λh=>by omega,b2⟩ ⟨Hs.i0,Hs.i1,Hs.ah,rfl,Hs.s0,Hs.s1,?_,rfl⟩;have:=Hs.s0;simp [Task.gH,ey];omega
 unfold dw;by_cases o1:re.op=1
 ·simp only[ap o1];by_cases hc:i<t.length/\tv re.set (gQ t i)=true
  ·simp only[ap hc];have q:=go next (i+1) c s1 (by omega) (by omega) H.ah rfl rfl rfl (ady _) H.s1 H.empty (hn.mono (by omega) (ady _))
   exact q
  ·simp only[am hc];exact⟨0,false,s1,rfl,no⟩
 simp only[am o1];by_cases o2:re.op=2
 ·simp only[ap o2];exact here _ (KK hn re.kids h2)
 simp only[am o2];by_cases o3:re.op=3
 ·simp only[ap o3];obtain⟨n,b,s',k1,k2⟩:=FP (ai:=ai) (next:=next) (s0:=s1.steps) re.kids s1 (λk hk s hs Hs=>IH ai _ s hs ⟨by omega,h2 k hk,λh=>by omega,λh=>by omega,λh=>by omega,λh=>by omega,hn.mono (ady _) hs⟩ Hs) (ady _) (H.le (by omega));exact⟨n,b,s',k1,k2.oX (by omega) (ady _)⟩
 simp only[am o3];by_cases o5:re.op=5
 ·simp only[ap o5];cases hk:re.kids with
  |nil=>exact absurd hk (Vl (by omega))
  |cons aL l =>
   exact here _ ⟨by omega,h2 aL (by rw[hk];simp),λh=>by omega,λh=>by omega,λh=>by omega,λh=>by omega,by omega,hsh,λh=>by omega,λh=>by omega,λh=>by omega,λ_=>⟨hi0,ady _⟩,hn⟩
 simp only[am o5];by_cases o6:re.op=6
 ·simp only[ap o6];have du:=Hb H.ah re.n;generalize bH c re.n=x at *;by_cases c1:x.1<0
  ·simp only[ap c1];exact⟨0,false,s1,rfl,no⟩
  simp only[am c1];have hx:0<=x.1/\x.1<=x.2/\x.2<=t.length:=by
   rcases du with h|h
   ·rw[h]at c1;exact absurd (by decide) c1
   ·exact h
  simp only[am (show ¬(x.2<x.1\/(t.length:Int)<x.2) by omega)];by_cases c3:t.length<i+x.2-x.1
  ·simp only[ap c3];exact⟨0,false,s1,rfl,no⟩
  simp only[am c3];by_cases c4:dI t x.1 i (x.2-x.1).toNat=true
  ·simp only[ap c4];exact go next (i+x.2-x.1) c s1 (by omega) (by omega) H.ah rfl rfl rfl (ady _) H.s1 H.empty (hn.mono (by omega) (ady _))
  ·simp only[am c4];exact⟨0,false,s1,rfl,no⟩
 simp only[am o6];by_cases o7:re.op=7\/re.op=8
 ·simp only[ap o7];cases hk:re.kids with
  |nil=>exact absurd hk (Vl (by omega))
  |cons aL l =>
   have kS:aL.every ja=true:=h2 aL (by rw[hk];simp);have look:∃n r s',iR (dO t F n) re.op aL i c s1=some (r,s')/\s1.steps<=s'.steps/\s'.steps<=F+1/\s'.empty=decide (F<s'.steps)/\s'.ends=s1.ends/\s'.ah=s1.ah/\(∀d,r=some d->dj t d/\d.length=c.length):=by
    unfold iR;by_cases p7:re.op=7
    ·simp only[ap p7];obtain⟨n,r,s',k1,k2,k3,k4,k5,k6,k7,k8,_⟩:=qi (H.le (sl':=0) (by omega)) (fst aL .nil i s1 kS trivial (ady _) (H.le (by omega))) rfl;refine⟨n,r.map (·.2),s',by rw[k1],k2,k3,k4,k5,k6,λd hd=>?_⟩;obtain⟨p,hp,rfl⟩:=Option.map_eq_some_iff.1 hd;have:=k8 p.1 p.2 hp;exact⟨this.2.2.1,this.2.2.2⟩
    ·simp only[am p7];refine xi (s0:=s1.steps) rfl H.ah _ s1 (by omega) (λk s hk hs Hs=>fst aL _ k s kS ?_ hs Hs) (ady _) H.s0 (by have:=H.s1;omega) (by rw[H.empty,adl (by have:=H.s1;omega)]) (by have:=H.ends;omega) H.same;refine⟨by omega,?_,λh=>by omega,λh=>by omega,λh=>by omega,λh=>by omega,trivial⟩;rw[Re.aQ];refine⟨adu ⟨λh=>by simp [Re.op]at h,λh=>by simp [Re.op]at h,by simp [Re.set],by simp [Re.kids]⟩,λk hk=>by simp [Re.kids]at hk⟩
   obtain⟨n1,r,s2,k1,k2,k3,k4,k5,k6,k7⟩:=look;by_cases he:s2.empty=true
   ·refine⟨n1,true,s2,?_,⟨k2,k3,k4,λ_=>rfl,[],[],by rw[k5];simp,by rw[k6];simp,rfl,by simp;omega,by simp,by simp⟩⟩;simp only[k1,ap he]
   have he:s2.empty=false:=by simpa using he
   have hle:=xa k4 he;have ZI:eo t F 1 i c.length s1 false s2:=⟨k2,k3,k4,λh=>(by rw[he]at h;cases h),[],[],by rw[k5];simp,by rw[k6];simp,rfl,by simp;omega,by simp,by simp⟩
   by_cases cS:re.neg=true
   ·cases r with
    |some d =>
     refine⟨n1,false,s2,?_,ZI⟩;simp only[k1,he,adq,if_false,ap cS]
    |none =>
     obtain⟨n2,b,s',j1,j2⟩:=go next i c s2 (ady _) fD H.ah rfl k5 k6 k2 hle he (hn.mono (ady _) k2)
     refine⟨max n1 n2,b,s',?_,j2⟩;have hm:=uD (rec:=dO t F n1) (rec':=dO t F (max n1 n2)) (λm task st r hr=>eu (Nat.le_max_left n1 n2) hr) k1;simp only[hm,he,adq,if_false,ap cS];exact eu (Nat.le_max_right n1 n2) j1
   ·cases r with
    |none =>
     refine⟨n1,false,s2,?_,ZI⟩;simp only[k1,he,adq,if_false,am cS]
    |some d =>
     obtain⟨q1,q2⟩:=k7 d rfl;obtain⟨n2,b,s',j1,j2⟩:=go next i d s2 (ady _) fD q1 q2 k5 k6 k2 hle he (hn.mono (ady _) k2)
     refine⟨max n1 n2,b,s',?_,j2⟩;have hm:=uD (rec:=dO t F n1) (rec':=dO t F (max n1 n2)) (λm task st r hr=>eu (Nat.le_max_left n1 n2) hr) k1;simp only[hm,he,adq,if_false,am cS];exact eu (Nat.le_max_right n1 n2) j1
 simp only[am o7];by_cases o9:re.op=9
 ·simp only[ap o9];cases hk:re.kids with
  |nil=>exact absurd hk (Vl (by omega))
  |cons aL l =>
   have kS:aL.every ja=true:=h2 aL (by rw[hk];simp);obtain⟨n1,r,s2,k1,k2,k3,k4,k5,k6,k7,k8,_⟩:=qi (H.le (sl':=0) (by omega)) (fst aL .nil i s1 kS trivial (ady _) (H.le (by omega))) rfl;by_cases he:s2.empty=true
   ·refine⟨n1,true,s2,?_,⟨k2,k3,k4,λ_=>rfl,[],[],by rw[k5];simp,by rw[k6];simp,rfl,by simp;omega,by simp,by simp⟩⟩;simp only[k1,ap he]
   have he:s2.empty=false:=by simpa using he
   have hle:=xa k4 he;cases r with
   |none =>
    refine⟨n1,false,s2,?_,⟨k2,k3,k4,λh=>(by rw[he]at h;cases h),[],[],by rw[k5];simp,by rw[k6];simp,rfl,by simp;omega,by simp,by simp⟩⟩;simp only[k1,he,adq,if_false]
   |some p =>
    obtain⟨e,d⟩:=p;obtain⟨q1,q2,q3,q4⟩:=k8 e d rfl;obtain⟨n2,b,s',j1,j2⟩:=go next e d s2 q1 q2 q3 q4 k5 k6 k2 hle he (hn.mono q1 k2)
    refine⟨max n1 n2,b,s',?_,j2⟩;have hm:=gD (rec:=dO t F n1) (rec':=dO t F (max n1 n2)) (λm task st r hr=>eu (Nat.le_max_left n1 n2) hr) k1;simp only[hm,he,adq,if_false];exact eu (Nat.le_max_right n1 n2) j1
 simp only[am o9];by_cases rF:re.op=10
 ·simp only[ap rF];have eh:=h1b rF
  match hk:re.kids with
  |[]=>rw[hk]at eh;simp at eh
  |[_]=>rw[hk]at eh;simp at eh
  |yes::Z9::l =>
   have hy:∀k,k=yes\/k=Z9->k.every ja=true:=λk h=>h2 k (by rw[hk];rcases h with rfl|rfl <;> simp);refine here _ ⟨by omega,hy _ ?_,λh=>by omega,λh=>by omega,λh=>by omega,λh=>by omega,hn⟩;split
   ·exact .inl rfl
   ·exact .inr rfl
 simp only[am rF];by_cases nb:re.op=11
 ·simp only[ap nb];by_cases hc:bN re.n t i=true
  ·simp only[ap hc];exact here next hn
  ·simp only[am hc];exact⟨0,false,s1,rfl,no⟩
 simp only[am nb];exact here next hn
theorem NU (aU:st.steps<=F) (IH:∀ai task s,st.steps<s.steps->task.ok t s.steps->kP t F task.pos task.ah task.gH s->Ends t F ai task s){k:Int}{next:Goal}
  (hsh:re.every ja=true) (o4:re.op=4) (hk0:0<=k) (oG:k<=st.steps) (hn:iY t i st.steps next) (hF:F<=1200000000000) (H:kP t F i c 0 st) (hm:re.mode≠2) :
  ∃n b s',lR F (dO t F n) ai re k next i c st=some (b,s')/\eo t F 0 i c.length st b s'/\st.steps<s'.steps:=by
 have fD:=H.i1;have fW:=H.s0;obtain⟨h1,h2⟩:=(Re.aQ re).1 hsh;obtain⟨Vl,_⟩:=of_decide_eq_true h1;have oK:(st.step F).steps=st.steps+1:=rfl;unfold lR;simp only[am hm];simp only[am (show ¬(st.steps<0\/10000000000000<st.steps) by omega)];by_cases he:(st.step F).empty=true
 ·simp only[ap he];exact⟨0,true,st.step F,rfl,.out aU he H.empty,by rw[oK];omega⟩
 simp only[am he];have he:(st.step F).empty=false:=by simpa using he
 have VB:st.steps+1<=F:=by simp only[bd.step,H.empty,adY]at he;have:=of_decide_eq_false he;omega
 generalize eC:st.step F=s1 at *;have e1:s1.ends=st.ends:=by rw[<- eC];rfl
 have e2:s1.ah=st.ah:=by rw[<- eC];rfl
 have H1:∀sl,sl<=1->kP t F i c sl s1:=λsl sO=>H.at (ady _) fD H.ah e1 e2 (by omega) (by omega) he (by omega);cases hk:re.kids with
 |nil=>exact absurd hk (Vl (by omega))
 |cons aL l =>
  have kS:aL.every ja=true:=h2 aL (by rw[hk];simp);have lX:iY t i s1.steps next:=hn.mono (ady _) (by omega)
  have A0:∀s:bd,s1.steps<=s.steps->iY t i s.steps (.mk 0 aL 0 0 (.mk 2 re k i next)):=λs hs =>
   ⟨by omega,kS,λh=>by omega,λh=>by omega,λh=>by omega,λh=>by omega,by omega,hsh,λ_=>o4,λh=>by omega,λ_=>⟨hk0,by omega⟩,λh=>by omega,lX.mono (ady _) hs⟩
  have once:∀s,s1.steps<=s.steps->kP t F i c 0 s->∃n b s',dO t F n ai (.run (.mk 0 aL 0 0 (.mk 2 re k i next)) i c) s=some (b,s')/\eo t F 0 i c.length s b s':=λs hs Hs=>by obtain⟨n,b,s',q1,q2,_⟩:=IH ai (.run (.mk 0 aL 0 0 (.mk 2 re k i next)) i c) s (by omega) (A0 s hs) Hs;exact⟨n,b,s',q1,q2⟩
  have Tu:∀s,s1.steps<=s.steps->kP t F i c 1 s->∃n b s',dO t F n ai (.run next i c) s=some (b,s')/\eo t F 1 i c.length s b s':=λs hs Hs=>by
   have sO:=gP next
   obtain⟨n,b,s',q1,q2,_⟩:=IH ai (.run next i c) s (by omega) (lX.mono (ady _) hs) (Hs.le sO.2);exact⟨n,b,s',q1,q2.oX sO.2 (ady _)⟩
  have fin:∀{b s'},eo t F 1 i c.length s1 b s'->eo t F 0 i c.length st b s'/\st.steps<s'.steps:=λ{b s'} h=>⟨by have:=h.same (st:=st) (d:=1) e1 e2 (by omega) (by omega) (ady _);simpa using this,by have:=h.s0;omega⟩
  simp only;by_cases c2:k<re.mn
  ·simp only[ap c2];obtain⟨n,b,s',q1,q2⟩:=once s1 (ady _) (H1 0 (by omega));exact⟨n,b,s',q1,fin (q2.oX (by omega) (ady _))⟩
  simp only[am c2];have no:∀s,kP t F i c 0 s->eo t F 0 i c.length s false s:=λs Hs=>.no Hs.s1 Hs.empty (ady _);by_cases m1:re.mode=1
  ·simp only[ap m1];obtain⟨n1,b1,s2,q1,q2⟩:=Tu s1 (ady _) (H1 1 (ady _));cases b1 with
   |true=>exact⟨n1,true,s2,by rw[q1];rfl,fin q2⟩
   |false =>
    have H2:=(H1 1 (ady _)).next q2 (sl':=0) (by omega);by_cases hM:re.mx=-1\/k<re.mx
    ·simp only[ap hM];obtain⟨n2,b2,s3,j1,j2⟩:=once s2 (by have:=q2.s0;omega) H2;refine⟨max n1 n2,b2,s3,?_,fin (by have:=q2.trans j2;simpa using this)⟩;rw[eu (Nat.le_max_left n1 n2) q1];exact eu (Nat.le_max_right n1 n2) j1
    ·simp only[am hM];exact⟨n1,false,s2,by rw[q1];rfl,fin q2⟩
  ·simp only[am m1];by_cases hM:re.mx=-1\/k<re.mx
   ·simp only[ap hM];obtain⟨n1,b1,s2,q1,q2⟩:=once s1 (ady _) (H1 0 (by omega));cases b1 with
    |true=>exact⟨n1,true,s2,by rw[q1];rfl,fin (q2.oX (by omega) (ady _))⟩
    |false =>
     have H2:=(H1 1 (ady _)).next q2 (sl':=1) (by omega);obtain⟨n2,b2,s3,j1,j2⟩:=Tu s2 (by have:=q2.s0;omega) H2;refine⟨max n1 n2,b2,s3,?_,fin (by have:=q2.trans j2;simpa using this)⟩;rw[eu (Nat.le_max_left n1 n2) q1];exact eu (Nat.le_max_right n1 n2) j1
   ·simp only[am hM];obtain⟨n1,b1,s2,q1,q2⟩:=Tu s1 (ady _) (H1 1 (ady _));exact⟨n1,b1,s2,q1,fin q2⟩
theorem O8 (hF:F<=1200000000000):∀(N r:Nat) (ai:Int) (task:Task) (st:bd),(F+1-st.steps).toNat<=N->task.wz<=r->task.ok t st.steps->kP t F task.pos task.ah task.gH st->Ends t F ai task st:=by
 intro N;induction N with
 |zero=>intro r ai task st hN _ _ H;have:=H.s1;omega
 |succ N ihN =>
  intro r
  -- after a step
  have Nm:∀(st:bd),(F+1-st.steps).toNat<=N+1->st.steps<=F->∀ai task s,st.steps<s.steps->task.ok t s.steps->kP t F task.pos task.ah task.gH s->Ends t F ai task s :=
   λst hN hs ai task s aH jB H=>ihN task.wz ai task s (by omega) (adB _) jB H
  induction r with
  |zero =>
   intro ai task st hN hr jB H;cases task with
   |run g i c =>
    cases g with
    |nil =>
     have hi0:0<=i:=H.i0;have fD:i<=t.length:=H.i1;have oh:=H.ends;have eC:=H.s1;have sO:(Task.run Goal.nil i c).gH=1:=rfl;rw[sO]at oh;refine⟨1,decide (0<=ai)&&decide (ai<=(st.ends.length:Int)+1),{ st with ends:=st.ends++[i],ah:=st.ah++[c] },?_,?_,λh=>h.elim⟩
     ·show bL t F (dO t F 0) ai (.run .nil i c) st=_;simp only[bL];rw[am (by omega),ap ⟨by omega,H.same⟩]
     ·refine⟨ady _,by show st.steps<=F+1;omega,?_,λh=>?_,[i],[c],rfl,rfl,rfl,?_,λe he=>?_,λd hd=>?_⟩
      ·show st.empty=decide (F<st.steps);rw[H.empty,adl (by omega)]
      ·have h:st.empty=true:=h;rw[H.empty]at h;cases h
      ·rw[sO];show ((1:Nat):Int)<=st.steps-st.steps+1;omega
      ·rw[List.mem_singleton.1 he];exact⟨ady _,fD⟩
      ·rw[List.mem_singleton.1 hd];exact⟨H.ah,rfl⟩
    |mk kind re k cq next =>
     exfalso;simp only[Task.wz,vI]at hr;split at hr
     ·split at hr <;> omega
     ·split at hr
      ·omega
      ·split at hr <;> omega
   |rep g i c =>
    cases g with
    |nil=>exact jB.elim
    |mk kind re k cq next =>
     exfalso;simp only[Task.wz]at hr;split at hr <;> omega
   |node g i c=>simp [Task.wz]at hr
  |succ r ihr =>
   intro ai task st hN hr jB H;have hi0:=H.i0;have fD:=H.i1;have fW:=H.s0;have eC:=H.s1;cases task with
   |run g i c =>
    have hi0:0<=i:=hi0;have fD:i<=t.length:=fD;cases g with
    |nil=>exact ihr ai _ st hN (Nat.zero_le _) jB H
    |mk kind re k cq next =>
     obtain⟨g0,g1,g2,g3,g4,g5,g6⟩:=jB;by_cases k1:kind=1
     ·have Tc:Task.wz (.rep (.mk kind re k cq next) i c)<=r:=by simp only[Task.wz,vI,ap k1]at hr ⊢;split <;> rename_i hm <;> simp only[hm,if_true,if_false]at hr <;> omega
      refine Ends.via (task':=.rep (.mk kind re k cq next) i c) (λrec=>?_) (ihr ai _ st hN Tc ⟨g1,g2 (.inl k1),(g3 k1).1,(g3 k1).2,g6⟩ ⟨hi0,fD,H.ah,H.empty,fW,eC,?_,H.same⟩) ?_ (ady _) rfl (λh=>h.2)
      ·simp only[bL];rw[am (by omega),ap k1]
      ·have:=H.ends;have:=(gP (.mk kind re k cq next)).1;simp only[Task.gH]at *;omega
      ·simp [Task.gH];exact(gP _).1
     by_cases k2:kind=2
     ·have sO:ey (.mk kind re k cq next)=0:=by rw[ey,am (by omega)]
      have oh:=H.ends;simp only[Task.gH,sO]at oh;by_cases c1:re.mn<=k/\i=cq
      ·refine⟨1,false,st,?_,.no eC H.empty (by simp only[Task.gH,sO];omega),λh=>absurd h.1 k1⟩;show bL t F (dO t F 0) ai _ st=_;simp only[bL];rw[am (by omega),am k1,ap k2,ap c1]
      ·have hk:=g4 k2;refine Ends.via (task':=.run (.mk 1 re (k+1) 0 next) i c) (λrec=>?_) (ihr ai _ st hN ?_ ⟨by omega,g1,λ_=>g2 (.inr k2),λ_=>⟨by omega,by omega⟩,λh=>by omega,λh=>by omega,g6⟩ ⟨hi0,fD,H.ah,H.empty,fW,eC,?_,H.same⟩) ?_ (ady _) rfl (λh=>absurd h.1 k1)
       ·simp only[bL];rw[am (by omega),am k1,ap k2,am c1,am (by omega)]
       ·simp only[Task.wz,vI]at hr ⊢;rw[am k1,ap k2]at hr;simp only[if_true];split <;> omega
       ·simp [Task.gH,ey];omega
       ·simp only[Task.gH,sO];simp [ey]
     by_cases k3:kind=3
     ·have hf:=g5 k3;have sO:ey (.mk kind re k cq next)=ey next:=by rw[ey,ap (.inl k3)]
      obtain⟨w1,w2⟩:=dj.with (n:=re.n) (H.ah:dj t c) hf.1 hf.2 fD;have cZ:c.length<=1000000000:=(H.ah:dj t c).1;refine Ends.via (task':=.run next i (kD c re.n cq i)) (λrec=>?_) (ihr ai _ st hN ?_ g6 ⟨hi0,fD,w1,H.empty,fW,eC,?_,H.same⟩) ?_ (ady _) w2 (λh=>absurd h.1 k1)
      ·simp only[bL];rw[am (by omega),am k1,am k2,ap k3,am (by omega)]
      ·simp only[Task.wz]at hr ⊢;rw[vI,am k1,am k2,ap (.inl k3)]at hr;omega
      ·have:=H.ends;simp only[Task.gH,sO]at this ⊢;exact this
      ·simp only[Task.gH,sO];exact ady _
     by_cases k4:kind=4
     ·have sO:ey (.mk kind re k cq next)=ey next:=by rw[ey,ap (.inr k4)]
      by_cases c1:i=cq
      ·refine Ends.via (task':=.run next i c) (λrec=>?_) (ihr ai _ st hN ?_ g6 ⟨hi0,fD,H.ah,H.empty,fW,eC,?_,H.same⟩) ?_ (ady _) rfl (λh=>absurd h.1 k1)
       ·simp only[bL];rw[am (by omega),am k1,am k2,am k3,ap k4,ap c1]
       ·simp only[Task.wz]at hr ⊢;rw[vI,am k1,am k2,ap (.inr k4)]at hr;omega
       ·have:=H.ends;simp only[Task.gH,sO]at this ⊢;exact this
       ·simp only[Task.gH,sO];exact ady _
      ·refine⟨1,false,st,?_,.no eC H.empty (gP _).1,λh=>absurd h.1 k1⟩;show bL t F (dO t F 0) ai _ st=_;simp only[bL];rw[am (by omega),am k1,am k2,am k3,ap k4,am c1]
     have sO:ey (.mk kind re k cq next)=0:=by rw[ey,am (by omega)]
     refine Ends.via (task':=.node (.mk kind re k cq next) i c) (λrec=>?_) (ihr ai _ st hN ?_ ⟨g1,g6⟩ ⟨hi0,fD,H.ah,H.empty,fW,eC,?_,H.same⟩) ?_ (ady _) rfl (λh=>absurd h.1 k1)
     ·simp only[bL];rw[am (by omega),am k1,am k2,am k3,am k4]
     ·simp only[Task.wz]at hr ⊢;rw[vI,am k1,am k2,am (by omega)]at hr;omega
     ·have:=H.ends;simp only[Task.gH,sO]at this ⊢;exact this
     ·simp only[Task.gH,sO];exact ady _
   |rep g i c =>
    have hi0:0<=i:=hi0;have fD:i<=t.length:=fD;cases g with
    |nil=>exact jB.elim
    |mk kind re k cq next =>
     obtain⟨g1,g2,g3,g4,g5⟩:=jB;have oh:(st.ends.length:Int)+0<=st.steps:=H.ends;by_cases hm:re.mode=2
     ·have hf:=qi (t:=t) (F:=F) (g:=.mk 1 (re.db 0) 0 0 .nil) (i:=i) (c:=c) (sl:=0) (st:=st) ⟨hi0,fD,H.ah,H.empty,fW,eC,oh,H.same⟩
       (ihr 1 _ _ (by simpa using hN) (by
        simp only[Task.wz,vI]at hr ⊢;simp only[hm,if_true]at hr;have fG:¬(re.db 0).mode=2:=by simp [Re.db,Re.mode]
        simp only[if_true];rw[am fG];omega) ⟨by omega,Be g1 0,λ_=>g2,λ_=>⟨ady _,fW⟩,λh=>by omega,λh=>by omega,trivial⟩ ⟨hi0,fD,H.ah,rfl,fW,eC,(by simp [Task.gH,ey];exact fW),rfl⟩) (by simp [ey])
      obtain⟨n1,r1,s1,j1,j2,j3,j4,j5,j6,j7,j8,j9⟩:=hf;have aH:st.steps<s1.steps:=j9 ⟨rfl,by simp [Re.db,Re.mode]⟩;have JN:¬(Task.rep (.mk kind re k cq next) i c).yT:=λh=>h hm;have qy:∀n r',lR F (dO t F n) ai re k next i c st=r'->dO t F (n+1) ai (.rep (.mk kind re k cq next) i c) st=r':=λn r' h=>by show bL t F (dO t F n) ai _ st=_;simp only[bL];rw[am (by omega)];exact h
      cases r1 with
      |none =>
       refine⟨n1+1,s1.empty,s1,qy n1 _ ?_,⟨j2,j3,j4,λh=>h,[],[],by rw[j5];simp,by rw[j6];simp,rfl,by simp [Task.gH];omega,by simp,by simp⟩,λh=>(JN h).elim⟩;unfold lR;rw[ap hm,j1]
      |some p =>
       obtain⟨e,d⟩:=p;obtain⟨q1,q2,q3,q4⟩:=j8 e d rfl;have he:s1.empty=false:=by
        cases hx:s1.empty with
        |false=>rfl
        |true=>have:=j7 hx;cases this
       have hle:=xa j4 he;have sO:=gP next
       obtain⟨n2,b,s',l1,l2,_⟩:=Nm st hN eC ai (.run next e d) s1 aH (g5.mono q1 j2) ⟨Int.le_trans hi0 q1,q2,q3,he,by omega,hle,by rw[j5];simp only[Task.gH];omega,by rw[j5,j6];exact H.same⟩;have l2:eo t F (ey next) e d.length s1 b s':=l2;rw[q4]at l2;have l3:=(l2.oX (sl':=1) sO.2 (ady _)).same (st:=st) (d:=1) (i:=i) j5 j6 (by omega) (by omega) q1;refine⟨max n1 n2+1,b,s',qy _ _ ?_,(show eo t F 0 i c.length st b s' by simpa using l3),λh=>(JN h).elim⟩;unfold lR;have hmn:=gD (rec:=dO t F n1) (rec':=dO t F (max n1 n2)) (λm task st r hr=>eu (Nat.le_max_left n1 n2) hr) j1;rw[ap hm,hmn];exact eu (Nat.le_max_right n1 n2) l1
     ·obtain⟨n,b,s',q1,q2,q3⟩:=NU eC (Nm st hN eC) (ai:=ai) g1 g2 g3 g4 g5 hF (⟨hi0,fD,H.ah,H.empty,fW,eC,oh,H.same⟩:kP t F i c 0 st) hm;refine⟨n+1,b,s',?_,q2,λ_=>q3⟩;show bL t F (dO t F n) ai _ st=_;simp only[bL];rw[am (by omega)];exact q1
   |node g i c =>
    have hi0:0<=i:=hi0;have fD:i<=t.length:=fD;cases g with
    |nil=>exact jB.elim
    |mk kind re k cq next =>
     obtain⟨g1,g6⟩:=jB;have oh:(st.ends.length:Int)+0<=st.steps:=H.ends;obtain⟨h1,h2⟩:=(Re.aQ re).1 g1;obtain⟨_,_,h1c,h1d⟩:=of_decide_eq_true h1;have cZ:c.length<=1000000000:=(H.ah:dj t c).1;by_cases o4:re.op=4
     ·refine Ends.via (task':=.rep (.mk 1 re 0 0 next) i c) (λrec=>?_) (ihr ai _ st hN ?_ ⟨g1,o4,ady _,fW,g6⟩ ⟨hi0,fD,H.ah,H.empty,fW,eC,oh,H.same⟩) (ady _) (ady _) rfl (λh=>absurd o4 h)
      ·simp only[bL];rw[am (by omega),ap o4]
      ·simp only[Task.wz]at hr ⊢;split <;> omega
     ·have oK:(st.step F).steps=st.steps+1:=rfl;have qy:∀n,dO t F (n+1) ai (.node (.mk kind re k cq next) i c) st=if (st.step F).empty then some (true,st.step F) else dw t (dO t F n) ai re next i c (st.step F):=λn=>by show bL t F (dO t F n) ai _ st=_;simp only[bL];rw[am (by omega),am o4,am (by omega),am (by omega)]
      by_cases he:(st.step F).empty=true
      ·refine⟨1,true,st.step F,?_,.out eC he H.empty,λ_=>by rw[oK];omega⟩;rw[qy 0,ap he]
      ·have lu:(st.step F).empty=false:=by simpa using he
       have VB:st.steps+1<=F:=by simp only[bd.step,H.empty,adY]at lu;have:=of_decide_eq_false lu;omega
       have H1:kP t F i c 1 (st.step F):=⟨hi0,fD,H.ah,lu,by rw[oK];omega,by rw[oK];omega,by rw[oK];show (st.ends.length:Int)+1<=st.steps+1;omega,H.same⟩
       obtain⟨n,b,s',q1,q2⟩:=Ml (λai task s hs XM H'=>Nm st hN eC ai task s (by rw[oK]at hs;omega) XM H') (ai:=ai) g1 (g6.mono (ady _) (by rw[oK];omega)) H1;refine⟨n+1,b,s',?_,(show eo t F 0 i c.length st b s' by simpa using q2.step),λ_=>by have:=q2.s0;rw[oK]at this;omega⟩;rw[qy n,am he];exact q1
end Go.Proofs.Ytphfjhaffbfpfaa
