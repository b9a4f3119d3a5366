/- A part of the proof (G15 G16 G17 F6 F7). -/
import Derived.Test.YtjjfioalgbecmaaGreatOQ20
set_option linter.unusedSimpArgs false
set_option linter.unusedVariables false
set_option maxRecDepth 100000
set_option maxHeartbeats 80000000
namespace Go.Proofs.YtjjfioalgbecmaaGreat
open Go.VL Go.Proofs.Tryz
variable{st:bO}{F:Int}{sl:Int}{s1:bO}{i:Int}{t:List Int}{c:aH}{sl':Int}{most:Int}{re:Re}{s:bO}{b:Int}{m:Mk}{z:Int}
theorem eo.same{e d:Int}{nc:Nat}{st':bO}{b:Bool} (h:eo t F sl e nc s1 b st') (he:s1.ends=st.ends) (hc:s1.ai=st.ai) (hs:st.steps+d<=s1.steps) (hd:0<=d) (hi:i<=e):eo t F (sl-d) i nc st b st':=by obtain⟨new,xg,h1,h2,h3,h4,h5,h6⟩:=h.more;exact⟨by have:=h.s0;omega,h.s1,h.empty,h.full,new,xg,by rw[h1,he],by rw[h2,hc],h3,ae,λx hx=>⟨by have:=h5 x hx;omega,(h5 x hx).2⟩,h6⟩
theorem mq.next{slp:Int} (H:mq t F i c sl st) (h:eo t F slp i c.length st false s1) (hs:slp+sl'<=sl):mq t F i c sl' s1:=by
 have he:s1.empty=false:=by
  cases hx:s1.empty with
  |false=>rfl
  |true=>have:=h.full hx;cases this
 have hd:=h.empty;rw[he]at hd;have hle:s1.steps<=F:=by have:=of_decide_eq_false hd.symm;omega
 obtain⟨new,xg,h1,h2,h3,h4,h5,h6⟩:=h.more;refine⟨H.i0,H.i1,H.ai,he,by have:=H.s0;have:=h.s0;omega,hle,?_,?_⟩
 ·have:=H.ends;rw[h1,ajQ,akC];omega
 ·rw[h1,h2,ajQ,ajQ,h3,H.same]
theorem Ends.via{task task':Task} (heq:∀rec,cM t F rec most task st=rec most task' st) (h:Ends t F most task' st) (h1:task'.iA<=task.iA) (h2:task.pos<=task'.pos) (h3:task'.ai.length=task.ai.length)
  (h4:task.Di->task'.Di):Ends t F most task st:=by
 obtain⟨n,b,st',k1,k2,k3⟩:=h;exact⟨n+1,b,st',by show cM t F (iw t F n) most task st=_;rw[heq];exact k1,(h3 ▸ k2.MN h1 h2),λhs=>k3 (h4 hs)⟩
theorem Lz {t:List Int}{F most:Int}{i:Int}{c:aH}{next:Goal}{s0:Int}:∀(l:List Re) (st:bO),(∀k∈l,∀s:bO,s0<=s.steps->mq t F i c 0 s->Ends t F most (.run (.mk 0 k 0 0 next) i c) s)->s0<=st.steps->mq t F i c 0 st ->
  ∃n b s',Cv (λk st=>iw t F n most (.run (.mk 0 k 0 0 next) i c) st) l st=some (b,s')/\eo t F 0 i c.length st b s'
 |[],st,_,_,H=>⟨0,false,st,rfl,.no H.s1 H.empty (akc _)⟩
 |k::l,st,h,hs,H=>by
  obtain⟨n1,b1,s1,k1,k2,_⟩:=h k ak st hs H;have k2:eo t F 0 i c.length st b1 s1:=k2;cases b1 with
  |true =>
   refine⟨n1,true,s1,?_,k2⟩;simp only[Cv,k1,Ma]
  |false =>
   have H1:=H.next k2 (sl':=0) ae;obtain⟨n2,b2,s2,j1,j2⟩:=Lz l s1 (λk hk=>h k (by simp [hk])) (by have:=k2.s0;omega) H1;refine⟨max n1 n2,b2,s2,?_,k2.trans j2⟩;simp only[Cv,eu (Nat.le_max_left n1 n2) k1,Ma];exact zO (λk st r hr=>eu (Nat.le_max_right n1 n2) hr) l s1 _ j1
theorem AP {t:List Int}{F:Int}{g:Goal}{c:aH}{s0:Int} (vj:eE g=0) (hc:jv t c):∀(m:Nat) (st:bO),(m:Int)<=t.length+1->(∀(k:Nat) (s:bO),k<m->s0<=s.steps->mq t F k c 0 s->Ends t F 1 (.run g k c) ⟨s.steps,false,[],[]⟩)->s0<=st.steps ->
  0<=st.steps->st.steps<=F+1->st.empty=decide (F<st.steps)->(st.ends.length:Int)<=st.steps->st.ai.length=st.ends.length ->
  ∃n r s',kk (λk st=>gv (iw t F n) g k c st) m st=some (r,s')/\st.steps<=s'.steps/\s'.steps<=F+1/\s'.empty=decide (F<s'.steps)/\s'.ends=st.ends/\s'.ai=st.ai/\(∀d,r=some d->jv t d/\d.length=c.length)
 |0,st,_,_,_,h0,h1,he,hl,hs=>⟨0,none,st,rfl,akc _,h1,he,rfl,rfl,λd h=>(by cases h)⟩
 |m+1,st,hm,h,kA,h0,h1,he,hl,hs=>by
  by_cases hx:st.empty=true
  ·exact⟨0,none,st,by simp only[kk,be hx],akc _,h1,he,rfl,rfl,λd h=>(by cases h)⟩
  have hx:st.empty=false:=by simpa using hx
  have hle:st.steps<=F:=by rw[hx]at he;have:=of_decide_eq_false he.symm;omega
  have H:mq t F (m:Nat) c 0 st:=⟨ae,ae,hc,hx,h0,hle,ae,hs⟩
  obtain⟨n1,r1,s1,k1,k2,k3,k4,k5,k6,k7,k8,_⟩:=qX H (h m st ae kA H) vj;cases r1 with
  |some p =>
   obtain⟨e,d⟩:=p;refine⟨n1,some d,s1,?_,k2,k3,k4,k5,k6,λd' h=>?_⟩
   ·simp only[kk,hx,ajY,if_false,k1]
   ·cases h;have:=k8 e d rfl;exact⟨this.2.2.1,this.2.2.2⟩
  |none =>
   obtain⟨n2,r2,s2,j1,j2,j3,j4,j5,j6,j7⟩:=AP vj hc m s1 ae (λk s hk=>h k s ae) ae ae k3 k4 (by rw[k5];omega) (by rw[k5,k6];exact hs);refine⟨max n1 n2,r2,s2,?_,ae,j3,j4,by rw[j5,k5],by rw[j6,k6],j7⟩;simp only[kk,hx,ajY,if_false];rw[iz (λm task st r hr=>eu (Nat.le_max_left n1 n2) hr) k1];exact qW (λk st r hr=>iz (λm task st r hr=>eu (Nat.le_max_right n1 n2) hr) hr) m s1 _ j1
theorem jv.with {t:List Int}{c:aH}{n bZ to:Int} (h:jv t c) (h0:0<=bZ) (h1:bZ<=to) (h2:to<=t.length):jv t (qy c n bZ to)/\(qy c n bZ to).length=c.length:=by
 unfold qy;split
 ·refine⟨⟨by simpa using h.1,λp hp=>?_⟩,ak⟩;rcases akL hp with hp|rfl
  ·exact h.2 p hp
  ·exact .inr ⟨h0,h1,h2⟩
 ·exact⟨h,rfl⟩
theorem RS (h:jv t c) (n:Int):TB t (cK c n):=by
 unfold cK;split
 ·exact .inl rfl
 ·rename_i hn;have az:(n-1).toNat<c.length:=ae;rw[List.getD,List.getElem?_eq_getElem az];exact h.2 _ (List.getElem_mem az)
theorem Fx (h:re.every jW=true) (m:Int):(re.fo m).every jW=true:=by rw[Re.aD]at h ⊢;exact⟨h.1,h.2⟩
theorem Of {t:List Int}{i s:Int}{next:Goal} (hn:jU t i s next):∀l:List Re,(∀k∈l,k.every jW=true)->jU t i s (rB l next)
 |[],_=>hn
 |k::l,h=>⟨ae,h k ak,λh=>ae,λh=>ae,λh=>ae,λh=>ae,Of hn l (λx hx=>h x (by simp [hx]))⟩
theorem mq.le (H:mq t F i c sl s) (h:sl'<=sl):mq t F i c sl' s :=
 ⟨H.i0,H.i1,H.ai,H.empty,H.s0,H.s1,by have:=H.ends;omega,H.same⟩
theorem mq.at{e:Int}{d:aH}{s2:bO} (H:mq t F i c sl s) (he0:i<=e) (he1:e<=t.length) (hd:jv t d) (h1:s2.ends=s.ends) (h2:s2.ai=s.ai) (h3:s.steps<=s2.steps) (h4:s2.steps<=F) (h5:s2.empty=false) (h6:sl'<=sl+(s2.steps-s.steps)):mq t F e d sl' s2 :=
 ⟨by have:=H.i0;omega,he1,hd,h5,by have:=H.s0;omega,h4,by have:=H.ends;rw[h1];omega,by rw[h1,h2];exact H.same⟩
theorem z5 (h:s.empty=decide (F<s.steps)) (he:s.empty=false):s.steps<=F:=by rw[he]at h;have:=of_decide_eq_false h.symm;omega
theorem PW (IH:∀most task s,s1.steps<=s.steps->task.ok t s.steps->mq t F task.pos task.ai task.iA s->Ends t F most task s){next:Goal}
  (hsh:re.every jW=true) (hn:jU t i s1.steps next) (H:mq t F i c 1 s1) :
  ∃n b s',fG t (iw t F n) most re next i c s1=some (b,s')/\eo t F 1 i c.length s1 b s':=by
 obtain⟨h1,h2⟩:=(Re.aD re).1 hsh;obtain⟨h1a,h1b,_,_⟩:=of_decide_eq_true h1;have hi0:=H.i0;have n7:=H.i1;have go:∀(g:Goal) (e:Int) (d:aH) (s2:bO),i<=e->e<=t.length->jv t d->d.length=c.length->s2.ends=s1.ends->s2.ai=s1.ai->s1.steps<=s2.steps->s2.steps<=F->s2.empty=false->jU t e s2.steps g ->
   ∃n b s',iw t F n most (.run g e d) s2=some (b,s')/\eo t F 1 i c.length s1 b s':=by
  intro g e d s2 a1 a2 a3 a4 a5 a6 a7 a8 a9 hg;have hs:=iJ g;obtain⟨n,b,s',k1,k2,_⟩:=IH most (.run g e d) s2 a7 hg (H.at (sl':=eE g) a1 a2 a3 a5 a6 a7 a8 a9 ae);have k2:eo t F (eE g) e d.length s2 b s':=k2;rw[a4]at k2;have k3:=(k2.MN (sl':=1) hs.2 (akc _)).same (st:=s1) (d:=0) (i:=i) a5 a6 ae (akc _) a1;rw[Int.sub_zero]at k3;exact⟨n,b,s',k1,k3⟩
 have here:∀g,jU t i s1.steps g->∃n b s',iw t F n most (.run g i c) s1=some (b,s')/\eo t F 1 i c.length s1 b s':=λg hg=>go g i c s1 (akc _) n7 H.ai rfl rfl rfl (akc _) H.s1 H.empty hg;have no:eo t F 1 i c.length s1 false s1:=.no H.s1 H.empty ae;have fst:∀(kid:Re) (tail:Goal) (k:Int) (s:bO),kid.every jW=true->jU t k s.steps tail->s1.steps<=s.steps->mq t F k c 0 s->Ends t F 1 (.run (.mk 0 kid 0 0 tail) k c) ⟨s.steps,false,[],[]⟩:=by intro kid tail k s b1 b2 b3 Hs;refine IH 1 _ _ b3 ⟨ae,b1,λh=>ae,λh=>ae,λh=>ae,λh=>ae,b2⟩ ⟨Hs.i0,Hs.i1,Hs.ai,rfl,Hs.s0,Hs.s1,?_,rfl⟩;have:=Hs.s0;simp [Task.iA,eE];omega
 unfold fG;by_cases o1:re.op=1
 ·simp only[be o1];by_cases hc:i<t.length/\ED re.set (mG t i)=true
  ·simp only[be hc];have q:=go next (i+1) c s1 ae ae H.ai rfl rfl rfl (akc _) H.s1 H.empty (hn.mono ae (akc _))
   exact q
  ·simp only[ap hc];exact⟨0,false,s1,rfl,no⟩
 simp only[ap o1];by_cases o2:re.op=2
 ·simp only[be o2];exact here _ (Of hn re.kids h2)
 simp only[ap o2];by_cases o3:re.op=3
 ·simp only[be o3];obtain⟨n,b,s',k1,k2⟩:=Lz (most:=most) (next:=next) (s0:=s1.steps) re.kids s1 (λk hk s hs Hs=>IH most _ s hs ⟨ae,h2 k hk,λh=>ae,λh=>ae,λh=>ae,λh=>ae,hn.mono (akc _) hs⟩ Hs) (akc _) (H.le ae);exact⟨n,b,s',k1,k2.MN ae (akc _)⟩
 simp only[ap o3];by_cases o5:re.op=5
 ·simp only[be o5];cases hk:re.kids with
  |nil=>exact absurd hk (h1a ae)
  |cons kid l =>
   exact here _ ⟨ae,h2 kid (by rw[hk];simp),λh=>ae,λh=>ae,λh=>ae,λh=>ae,ae,hsh,λh=>ae,λh=>ae,λh=>ae,λ_=>⟨hi0,akc _⟩,hn⟩
 simp only[ap o5];by_cases o6:re.op=6
 ·simp only[be o6];have jO:=RS H.ai re.n;generalize cK c re.n=x at *;by_cases c1:x.1<0
  ·simp only[be c1];exact⟨0,false,s1,rfl,no⟩
  simp only[ap c1];have hx:0<=x.1/\x.1<=x.2/\x.2<=t.length:=by
   rcases jO with h|h
   ·rw[h]at c1;exact absurd aU c1
   ·exact h
  simp only[ap (show ¬(x.2<x.1\/(t.length:Int)<x.2) by omega)];by_cases c3:t.length<i+x.2-x.1
  ·simp only[be c3];exact⟨0,false,s1,rfl,no⟩
  simp only[ap c3];by_cases c4:sk t x.1 i (x.2-x.1).toNat=true
  ·simp only[be c4];exact go next (i+x.2-x.1) c s1 ae ae H.ai rfl rfl rfl (akc _) H.s1 H.empty (hn.mono ae (akc _))
  ·simp only[ap c4];exact⟨0,false,s1,rfl,no⟩
 simp only[ap o6];by_cases o7:re.op=7\/re.op=8
 ·simp only[be o7];cases hk:re.kids with
  |nil=>exact absurd hk (h1a ae)
  |cons kid l =>
   have vA:kid.every jW=true:=h2 kid (by rw[hk];simp);have look:∃n r s',su (iw t F n) re.op kid i c s1=some (r,s')/\s1.steps<=s'.steps/\s'.steps<=F+1/\s'.empty=decide (F<s'.steps)/\s'.ends=s1.ends/\s'.ai=s1.ai/\(∀d,r=some d->jv t d/\d.length=c.length):=by
    unfold su;by_cases p7:re.op=7
    ·simp only[be p7];obtain⟨n,r,s',k1,k2,k3,k4,k5,k6,k7,k8,_⟩:=qX (H.le (sl':=0) ae) (fst kid .nil i s1 vA trivial (akc _) (H.le ae)) rfl;refine⟨n,r.map (·.2),s',by rw[k1],k2,k3,k4,k5,k6,λd hd=>?_⟩;obtain⟨p,hp,rfl⟩:=Option.map_eq_some_iff.1 hd;have:=k8 p.1 p.2 hp;exact⟨this.2.2.1,this.2.2.2⟩
    ·simp only[ap p7];refine AP (s0:=s1.steps) rfl H.ai _ s1 ae (λk s hk hs Hs=>fst kid _ k s vA ?_ hs Hs) (akc _) H.s0 (by have:=H.s1;omega) (by rw[H.empty,ce (by have:=H.s1;omega)]) (by have:=H.ends;omega) H.same;refine⟨ae,?_,λh=>ae,λh=>ae,λh=>ae,λh=>ae,trivial⟩;rw[Re.aD];refine⟨bi ⟨λh=>by simp [Re.op]at h,λh=>by simp [Re.op]at h,by simp [Re.set],by simp [Re.kids]⟩,λk hk=>by simp [Re.kids]at hk⟩
   obtain⟨n1,r,s2,k1,k2,k3,k4,k5,k6,k7⟩:=look;by_cases he:s2.empty=true
   ·refine⟨n1,true,s2,?_,⟨k2,k3,k4,λ_=>rfl,[],[],by rw[k5];simp,by rw[k6];simp,rfl,cC,ak,ak⟩⟩;simp only[k1,be he]
   have he:s2.empty=false:=by simpa using he
   have hle:=z5 k4 he;have fno:eo t F 1 i c.length s1 false s2:=⟨k2,k3,k4,λh=>(by rw[he]at h;cases h),[],[],by rw[k5];simp,by rw[k6];simp,rfl,cC,ak,ak⟩
   by_cases eM:re.neg=true
   ·cases r with
    |some d =>
     refine⟨n1,false,s2,?_,fno⟩;simp only[k1,he,ajY,if_false,be eM]
    |none =>
     obtain⟨n2,b,s',j1,j2⟩:=go next i c s2 (akc _) n7 H.ai rfl k5 k6 k2 hle he (hn.mono (akc _) k2)
     refine⟨max n1 n2,b,s',?_,j2⟩;have hm:=xa (rec:=iw t F n1) (rec':=iw t F (max n1 n2)) (λm task st r hr=>eu (Nat.le_max_left n1 n2) hr) k1;simp only[hm,he,ajY,if_false,be eM];exact eu (Nat.le_max_right n1 n2) j1
   ·cases r with
    |none =>
     refine⟨n1,false,s2,?_,fno⟩;simp only[k1,he,ajY,if_false,ap eM]
    |some d =>
     obtain⟨q1,q2⟩:=k7 d rfl;obtain⟨n2,b,s',j1,j2⟩:=go next i d s2 (akc _) n7 q1 q2 k5 k6 k2 hle he (hn.mono (akc _) k2)
     refine⟨max n1 n2,b,s',?_,j2⟩;have hm:=xa (rec:=iw t F n1) (rec':=iw t F (max n1 n2)) (λm task st r hr=>eu (Nat.le_max_left n1 n2) hr) k1;simp only[hm,he,ajY,if_false,ap eM];exact eu (Nat.le_max_right n1 n2) j1
 simp only[ap o7];by_cases o9:re.op=9
 ·simp only[be o9];cases hk:re.kids with
  |nil=>exact absurd hk (h1a ae)
  |cons kid l =>
   have vA:kid.every jW=true:=h2 kid (by rw[hk];simp);obtain⟨n1,r,s2,k1,k2,k3,k4,k5,k6,k7,k8,_⟩:=qX (H.le (sl':=0) ae) (fst kid .nil i s1 vA trivial (akc _) (H.le ae)) rfl;by_cases he:s2.empty=true
   ·refine⟨n1,true,s2,?_,⟨k2,k3,k4,λ_=>rfl,[],[],by rw[k5];simp,by rw[k6];simp,rfl,cC,ak,ak⟩⟩;simp only[k1,be he]
   have he:s2.empty=false:=by simpa using he
   have hle:=z5 k4 he;cases r with
   |none =>
    refine⟨n1,false,s2,?_,⟨k2,k3,k4,λh=>(by rw[he]at h;cases h),[],[],by rw[k5];simp,by rw[k6];simp,rfl,cC,ak,ak⟩⟩;simp only[k1,he,ajY,if_false]
   |some p =>
    obtain⟨e,d⟩:=p;obtain⟨q1,q2,q3,q4⟩:=k8 e d rfl;obtain⟨n2,b,s',j1,j2⟩:=go next e d s2 q1 q2 q3 q4 k5 k6 k2 hle he (hn.mono q1 k2)
    refine⟨max n1 n2,b,s',?_,j2⟩;have hm:=iz (rec:=iw t F n1) (rec':=iw t F (max n1 n2)) (λm task st r hr=>eu (Nat.le_max_left n1 n2) hr) k1;simp only[hm,he,ajY,if_false];exact eu (Nat.le_max_right n1 n2) j1
 simp only[ap o9];by_cases L7:re.op=10
 ·simp only[be L7];have cA:=h1b L7
  match hk:re.kids with
  |[]=>rw[hk]at cA;simp at cA
  |[_]=>rw[hk]at cA;simp at cA
  |yes::no'::l =>
   have hy:∀k,k=yes\/k=no'->k.every jW=true:=λk h=>h2 k (by rw[hk];rcases h with rfl|rfl <;> simp);refine here _ ⟨ae,hy _ ?_,λh=>ae,λh=>ae,λh=>ae,λh=>ae,hn⟩;split
   ·exact .inl rfl
   ·exact .inr rfl
 simp only[ap L7];by_cases sm:re.op=11
 ·simp only[be sm];by_cases hc:bL re.n t i=true
  ·simp only[be hc];exact here next hn
  ·simp only[ap hc];exact⟨0,false,s1,rfl,no⟩
 simp only[ap sm];exact here next hn
theorem Tp (bH:st.steps<=F) (IH:∀most task s,st.steps<s.steps->task.ok t s.steps->mq t F task.pos task.ai task.iA s->Ends t F most task s){k:Int}{next:Goal}
  (hsh:re.every jW=true) (o4:re.op=4) (m7:0<=k) (vd:k<=st.steps) (hn:jU t i st.steps next) (hF:F<=1200000000000) (H:mq t F i c 0 st) (hm:re.mode≠2) :
  ∃n b s',zx F (iw t F n) most re k next i c st=some (b,s')/\eo t F 0 i c.length st b s'/\st.steps<s'.steps:=by
 have n7:=H.i1;have kA:=H.s0;obtain⟨h1,h2⟩:=(Re.aD re).1 hsh;obtain⟨h1a,_⟩:=of_decide_eq_true h1;have qL:(st.step F).steps=st.steps+1:=rfl;unfold zx;simp only[ap hm];simp only[ap (show ¬(st.steps<0\/10000000000000<st.steps) by omega)];by_cases he:(st.step F).empty=true
 ·simp only[be he];exact⟨0,true,st.step F,rfl,.out bH he H.empty,by rw[qL];omega⟩
 simp only[ap he];have he:(st.step F).empty=false:=by simpa using he
 have hF1:st.steps+1<=F:=by simp only[bO.step,H.empty,akl]at he;have:=of_decide_eq_false he;omega
 generalize dM:st.step F=s1 at *;have e1:s1.ends=st.ends:=by rw[<- dM];rfl
 have e2:s1.ai=st.ai:=by rw[<- dM];rfl
 have H1:∀sl,sl<=1->mq t F i c sl s1:=λsl vj=>H.at (akc _) n7 H.ai e1 e2 ae ae he ae;cases hk:re.kids with
 |nil=>exact absurd hk (h1a ae)
 |cons kid l =>
  have vA:kid.every jW=true:=h2 kid (by rw[hk];simp);have Mb:jU t i s1.steps next:=hn.mono (akc _) ae
  have hm2:∀s:bO,s1.steps<=s.steps->jU t i s.steps (.mk 0 kid 0 0 (.mk 2 re k i next)):=λs hs =>
   ⟨ae,vA,λh=>ae,λh=>ae,λh=>ae,λh=>ae,ae,hsh,λ_=>o4,λh=>ae,λ_=>⟨m7,ae⟩,λh=>ae,Mb.mono (akc _) hs⟩
  have once:∀s,s1.steps<=s.steps->mq t F i c 0 s->∃n b s',iw t F n most (.run (.mk 0 kid 0 0 (.mk 2 re k i next)) i c) s=some (b,s')/\eo t F 0 i c.length s b s':=λs hs Hs=>by obtain⟨n,b,s',q1,q2,_⟩:=IH most (.run (.mk 0 kid 0 0 (.mk 2 re k i next)) i c) s ae (hm2 s hs) Hs;exact⟨n,b,s',q1,q2⟩
  have nxt:∀s,s1.steps<=s.steps->mq t F i c 1 s->∃n b s',iw t F n most (.run next i c) s=some (b,s')/\eo t F 1 i c.length s b s':=λs hs Hs=>by
   have vj:=iJ next
   obtain⟨n,b,s',q1,q2,_⟩:=IH most (.run next i c) s ae (Mb.mono (akc _) hs) (Hs.le vj.2);exact⟨n,b,s',q1,q2.MN vj.2 (akc _)⟩
  have fin:∀{b s'},eo t F 1 i c.length s1 b s'->eo t F 0 i c.length st b s'/\st.steps<s'.steps:=λ{b s'} h=>⟨by have:=h.same (st:=st) (d:=1) e1 e2 ae ae (akc _);simpa using this,by have:=h.s0;omega⟩
  simp only;by_cases c2:k<re.mn
  ·simp only[be c2];obtain⟨n,b,s',q1,q2⟩:=once s1 (akc _) (H1 0 ae);exact⟨n,b,s',q1,fin (q2.MN ae (akc _))⟩
  simp only[ap c2];have no:∀s,mq t F i c 0 s->eo t F 0 i c.length s false s:=λs Hs=>.no Hs.s1 Hs.empty (akc _);by_cases m1:re.mode=1
  ·simp only[be m1];obtain⟨n1,b1,s2,q1,q2⟩:=nxt s1 (akc _) (H1 1 (akc _));cases b1 with
   |true=>exact⟨n1,true,s2,by rw[q1];rfl,fin q2⟩
   |false =>
    have H2:=(H1 1 (akc _)).next q2 (sl':=0) ae;by_cases hM:re.mx=-1\/k<re.mx
    ·simp only[be hM];obtain⟨n2,b2,s3,j1,j2⟩:=once s2 (by have:=q2.s0;omega) H2;refine⟨max n1 n2,b2,s3,?_,fin (by have:=q2.trans j2;simpa using this)⟩;rw[eu (Nat.le_max_left n1 n2) q1];exact eu (Nat.le_max_right n1 n2) j1
    ·simp only[ap hM];exact⟨n1,false,s2,by rw[q1];rfl,fin q2⟩
  ·simp only[ap m1];by_cases hM:re.mx=-1\/k<re.mx
   ·simp only[be hM];obtain⟨n1,b1,s2,q1,q2⟩:=once s1 (akc _) (H1 0 ae);cases b1 with
    |true=>exact⟨n1,true,s2,by rw[q1];rfl,fin (q2.MN ae (akc _))⟩
    |false =>
     have H2:=(H1 1 (akc _)).next q2 (sl':=1) ae;obtain⟨n2,b2,s3,j1,j2⟩:=nxt s2 (by have:=q2.s0;omega) H2;refine⟨max n1 n2,b2,s3,?_,fin (by have:=q2.trans j2;simpa using this)⟩;rw[eu (Nat.le_max_left n1 n2) q1];exact eu (Nat.le_max_right n1 n2) j1
   ·simp only[ap hM];obtain⟨n1,b1,s2,q1,q2⟩:=nxt s1 (akc _) (H1 1 (akc _));exact⟨n1,b1,s2,q1,fin q2⟩
theorem TQ (hF:F<=1200000000000):∀(N r:Nat) (most:Int) (task:Task) (st:bO),(F+1-st.steps).toNat<=N->task.zj<=r->task.ok t st.steps->mq t F task.pos task.ai task.iA st->Ends t F most task st:=by
 intro N;induction N with
 |zero=>intro r most task st hN _ _ H;have:=H.s1;omega
 |succ N ihN =>
  intro r;have later:∀(st:bO),(F+1-st.steps).toNat<=N+1->st.steps<=F->∀most task s,st.steps<s.steps->task.ok t s.steps->mq t F task.pos task.ai task.iA s->Ends t F most task s :=
   λst hN hs most task s az gL H=>ihN task.zj most task s ae (ajZ _) gL H
  induction r with
  |zero =>
   intro most task st hN hr gL H;cases task with
   |run g i c =>
    cases g with
    |nil =>
     have hi0:0<=i:=H.i0;have n7:i<=t.length:=H.i1;have Fa:=H.ends;have dM:=H.s1;have vj:(Task.run Goal.nil i c).iA=1:=rfl;rw[vj]at Fa;refine⟨1,decide (0<=most)&&decide (most<=(st.ends.length:Int)+1),{ st with ends:=st.ends++[i],ai:=st.ai++[c] },?_,?_,λh=>h.elim⟩
     ·show cM t F (iw t F 0) most (.run .nil i c) st=_;simp only[cM];rw[bd,be ⟨ae,H.same⟩]
     ·refine⟨akc _,by show st.steps<=F+1;omega,?_,λh=>?_,[i],[c],rfl,rfl,rfl,?_,λe he=>?_,λd hd=>?_⟩
      ·show st.empty=decide (F<st.steps);rw[H.empty,ce ae]
      ·have h:st.empty=true:=h;rw[H.empty]at h;cases h
      ·rw[vj];show ((1:Nat):Int)<=st.steps-st.steps+1;omega
      ·rw[List.mem_singleton.1 he];exact⟨akc _,n7⟩
      ·rw[List.mem_singleton.1 hd];exact⟨H.ai,rfl⟩
    |mk kind re k bZ next =>
     exfalso;simp only[Task.zj,xK]at hr;split at hr
     ·split at hr <;> omega
     ·split at hr
      ·omega
      ·split at hr <;> omega
   |rep g i c =>
    cases g with
    |nil=>exact gL.elim
    |mk kind re k bZ next =>
     exfalso;simp only[Task.zj]at hr;split at hr <;> omega
   |node g i c=>simp [Task.zj]at hr
  |succ r ihr =>
   intro most task st hN hr gL H;have hi0:=H.i0;have n7:=H.i1;have kA:=H.s0;have dM:=H.s1;cases task with
   |run g i c =>
    have hi0:0<=i:=hi0;have n7:i<=t.length:=n7;cases g with
    |nil=>exact ihr most _ st hN (alf _) gL H
    |mk kind re k bZ next =>
     obtain⟨g0,g1,g2,g3,g4,g5,g6⟩:=gL;by_cases k1:kind=1
     ·have YG:Task.zj (.rep (.mk kind re k bZ next) i c)<=r:=by simp only[Task.zj,xK,be k1]at hr ⊢;split <;> rename_i hm <;> simp only[hm,if_true,if_false]at hr <;> omega
      refine Ends.via (task':=.rep (.mk kind re k bZ next) i c) (λrec=>?_) (ihr most _ st hN YG ⟨g1,g2 (.inl k1),(g3 k1).1,(g3 k1).2,g6⟩ ⟨hi0,n7,H.ai,H.empty,kA,dM,?_,H.same⟩) ?_ (akc _) rfl (λh=>h.2)
      ·simp only[cM];rw[bd,be k1]
      ·have:=H.ends;have:=(iJ (.mk kind re k bZ next)).1;simp only[Task.iA]at *;omega
      ·simp [Task.iA];exact(iJ _).1
     by_cases k2:kind=2
     ·have vj:eE (.mk kind re k bZ next)=0:=by rw[eE,bd]
      have Fa:=H.ends;simp only[Task.iA,vj]at Fa;by_cases c1:re.mn<=k/\i=bZ
      ·refine⟨1,false,st,?_,.no dM H.empty (by simp only[Task.iA,vj];omega),λh=>absurd h.1 k1⟩;show cM t F (iw t F 0) most _ st=_;simp only[cM];rw[bd,ap k1,be k2,be c1]
      ·have hk:=g4 k2;refine Ends.via (task':=.run (.mk 1 re (k+1) 0 next) i c) (λrec=>?_) (ihr most _ st hN ?_ ⟨ae,g1,λ_=>g2 (.inr k2),λ_=>⟨ae,ae⟩,λh=>ae,λh=>ae,g6⟩ ⟨hi0,n7,H.ai,H.empty,kA,dM,?_,H.same⟩) ?_ (akc _) rfl (λh=>absurd h.1 k1)
       ·simp only[cM];rw[bd,ap k1,be k2,ap c1,bd]
       ·simp only[Task.zj,xK]at hr ⊢;rw[ap k1,be k2]at hr;simp only[if_true];split <;> omega
       ·simp [Task.iA,eE];omega
       ·simp only[Task.iA,vj];simp [eE]
     by_cases k3:kind=3
     ·have hf:=g5 k3;have vj:eE (.mk kind re k bZ next)=eE next:=by rw[eE,be (.inl k3)]
      obtain⟨w1,w2⟩:=jv.with (n:=re.n) (H.ai:jv t c) hf.1 hf.2 n7;have ia:c.length<=1000000000:=(H.ai:jv t c).1;refine Ends.via (task':=.run next i (qy c re.n bZ i)) (λrec=>?_) (ihr most _ st hN ?_ g6 ⟨hi0,n7,w1,H.empty,kA,dM,?_,H.same⟩) ?_ (akc _) w2 (λh=>absurd h.1 k1)
      ·simp only[cM];rw[bd,ap k1,ap k2,be k3,bd]
      ·simp only[Task.zj]at hr ⊢;rw[xK,ap k1,ap k2,be (.inl k3)]at hr;omega
      ·have:=H.ends;simp only[Task.iA,vj]at this ⊢;exact this
      ·simp only[Task.iA,vj];exact akc _
     by_cases k4:kind=4
     ·have vj:eE (.mk kind re k bZ next)=eE next:=by rw[eE,be (.inr k4)]
      by_cases c1:i=bZ
      ·refine Ends.via (task':=.run next i c) (λrec=>?_) (ihr most _ st hN ?_ g6 ⟨hi0,n7,H.ai,H.empty,kA,dM,?_,H.same⟩) ?_ (akc _) rfl (λh=>absurd h.1 k1)
       ·simp only[cM];rw[bd,ap k1,ap k2,ap k3,be k4,be c1]
       ·simp only[Task.zj]at hr ⊢;rw[xK,ap k1,ap k2,be (.inr k4)]at hr;omega
       ·have:=H.ends;simp only[Task.iA,vj]at this ⊢;exact this
       ·simp only[Task.iA,vj];exact akc _
      ·refine⟨1,false,st,?_,.no dM H.empty (iJ _).1,λh=>absurd h.1 k1⟩;show cM t F (iw t F 0) most _ st=_;simp only[cM];rw[bd,ap k1,ap k2,ap k3,be k4,ap c1]
     have vj:eE (.mk kind re k bZ next)=0:=by rw[eE,bd]
     refine Ends.via (task':=.node (.mk kind re k bZ next) i c) (λrec=>?_) (ihr most _ st hN ?_ ⟨g1,g6⟩ ⟨hi0,n7,H.ai,H.empty,kA,dM,?_,H.same⟩) ?_ (akc _) rfl (λh=>absurd h.1 k1)
     ·simp only[cM];rw[bd,ap k1,ap k2,ap k3,ap k4]
     ·simp only[Task.zj]at hr ⊢;rw[xK,ap k1,ap k2,bd]at hr;omega
     ·have:=H.ends;simp only[Task.iA,vj]at this ⊢;exact this
     ·simp only[Task.iA,vj];exact akc _
   |rep g i c =>
    have hi0:0<=i:=hi0;have n7:i<=t.length:=n7;cases g with
    |nil=>exact gL.elim
    |mk kind re k bZ next =>
     obtain⟨g1,g2,g3,g4,g5⟩:=gL;have Fa:(st.ends.length:Int)+0<=st.steps:=H.ends;by_cases hm:re.mode=2
     ·have hf:=qX (t:=t) (F:=F) (g:=.mk 1 (re.fo 0) 0 0 .nil) (i:=i) (c:=c) (sl:=0) (st:=st) ⟨hi0,n7,H.ai,H.empty,kA,dM,Fa,H.same⟩
       (ihr 1 _ _ (by simpa using hN) (by
        simp only[Task.zj,xK]at hr ⊢;simp only[hm,if_true]at hr;have eU:¬(re.fo 0).mode=2:=by simp [Re.fo,Re.mode]
        simp only[if_true];rw[ap eU];omega) ⟨ae,Fx g1 0,λ_=>g2,λ_=>⟨akc _,kA⟩,λh=>ae,λh=>ae,trivial⟩ ⟨hi0,n7,H.ai,rfl,kA,dM,(by simp [Task.iA,eE];exact kA),rfl⟩) (by simp [eE])
      obtain⟨n1,r1,s1,j1,j2,j3,j4,j5,j6,j7,j8,j9⟩:=hf;have az:st.steps<s1.steps:=j9 ⟨rfl,by simp [Re.fo,Re.mode]⟩;have Pe:¬(Task.rep (.mk kind re k bZ next) i c).Di:=λh=>h hm;have Qo:∀n r',zx F (iw t F n) most re k next i c st=r'->iw t F (n+1) most (.rep (.mk kind re k bZ next) i c) st=r':=λn r' h=>by show cM t F (iw t F n) most _ st=_;simp only[cM];rw[bd];exact h
      cases r1 with
      |none =>
       refine⟨n1+1,s1.empty,s1,Qo n1 _ ?_,⟨j2,j3,j4,λh=>h,[],[],by rw[j5];simp,by rw[j6];simp,rfl,by simp [Task.iA];omega,ak,ak⟩,λh=>(Pe h).elim⟩;unfold zx;rw[be hm,j1]
      |some p =>
       obtain⟨e,d⟩:=p;obtain⟨q1,q2,q3,q4⟩:=j8 e d rfl;have he:s1.empty=false:=by
        cases hx:s1.empty with
        |false=>rfl
        |true=>have:=j7 hx;cases this
       have hle:=z5 j4 he;have vj:=iJ next
       obtain⟨n2,b,s',l1,l2,_⟩:=later st hN dM most (.run next e d) s1 az (g5.mono q1 j2) ⟨ald hi0 q1,q2,q3,he,ae,hle,by rw[j5];simp only[Task.iA];omega,by rw[j5,j6];exact H.same⟩;have l2:eo t F (eE next) e d.length s1 b s':=l2;rw[q4]at l2;have l3:=(l2.MN (sl':=1) vj.2 (akc _)).same (st:=st) (d:=1) (i:=i) j5 j6 ae ae q1;refine⟨max n1 n2+1,b,s',Qo _ _ ?_,(show eo t F 0 i c.length st b s' by simpa using l3),λh=>(Pe h).elim⟩;unfold zx;have hmn:=iz (rec:=iw t F n1) (rec':=iw t F (max n1 n2)) (λm task st r hr=>eu (Nat.le_max_left n1 n2) hr) j1;rw[be hm,hmn];exact eu (Nat.le_max_right n1 n2) l1
     ·obtain⟨n,b,s',q1,q2,q3⟩:=Tp dM (later st hN dM) (most:=most) g1 g2 g3 g4 g5 hF (⟨hi0,n7,H.ai,H.empty,kA,dM,Fa,H.same⟩:mq t F i c 0 st) hm;refine⟨n+1,b,s',?_,q2,λ_=>q3⟩;show cM t F (iw t F n) most _ st=_;simp only[cM];rw[bd];exact q1
   |node g i c =>
    have hi0:0<=i:=hi0;have n7:i<=t.length:=n7;cases g with
    |nil=>exact gL.elim
    |mk kind re k bZ next =>
     obtain⟨g1,g6⟩:=gL;have Fa:(st.ends.length:Int)+0<=st.steps:=H.ends;obtain⟨h1,h2⟩:=(Re.aD re).1 g1;obtain⟨_,_,h1c,h1d⟩:=of_decide_eq_true h1;have ia:c.length<=1000000000:=(H.ai:jv t c).1;by_cases o4:re.op=4
     ·refine Ends.via (task':=.rep (.mk 1 re 0 0 next) i c) (λrec=>?_) (ihr most _ st hN ?_ ⟨g1,o4,akc _,kA,g6⟩ ⟨hi0,n7,H.ai,H.empty,kA,dM,Fa,H.same⟩) (akc _) (akc _) rfl (λh=>absurd o4 h)
      ·simp only[cM];rw[bd,be o4]
      ·simp only[Task.zj]at hr ⊢;split <;> omega
     ·have qL:(st.step F).steps=st.steps+1:=rfl;have Qo:∀n,iw t F (n+1) most (.node (.mk kind re k bZ next) i c) st=if (st.step F).empty then some (true,st.step F) else fG t (iw t F n) most re next i c (st.step F):=λn=>by show cM t F (iw t F n) most _ st=_;simp only[cM];rw[bd,ap o4,bd,bd]
      by_cases he:(st.step F).empty=true
      ·refine⟨1,true,st.step F,?_,.out dM he H.empty,λ_=>by rw[qL];omega⟩;rw[Qo 0,be he]
      ·have vV:(st.step F).empty=false:=by simpa using he
       have hF1:st.steps+1<=F:=by simp only[bO.step,H.empty,akl]at vV;have:=of_decide_eq_false vV;omega
       have H1:mq t F i c 1 (st.step F):=⟨hi0,n7,H.ai,vV,by rw[qL];omega,by rw[qL];omega,by rw[qL];show (st.ends.length:Int)+1<=st.steps+1;omega,H.same⟩
       obtain⟨n,b,s',q1,q2⟩:=PW (λmost task s hs ad3 H'=>later st hN dM most task s (by rw[qL]at hs;omega) ad3 H') (most:=most) g1 (g6.mono (akc _) (by rw[qL];omega)) H1;refine⟨n+1,b,s',?_,(show eo t F 0 i c.length st b s' by simpa using q2.step),λ_=>by have:=q2.s0;rw[qL]at this;omega⟩;rw[Qo n,ap he];exact q1
def Mk.has (m:Mk) (u:Int):Bool:=decide (0<kg .and .i64 m.cL u)
def Re.node (op:Int) (kids:List Re):Re:=.mk op [] kids 0 0 0 0 false
def aL (t:Mk->Re×Mk):Nat->Int->Mk->List Re×Mk
 |0,_,m=>([],m)
 |f+1,i,m =>
  if i<2+(m.next 2).1 then
   (((t (m.next 2).2).1)::(aL t f (i+1) (t (m.next 2).2).2).1,(aL t f (i+1) (t (m.next 2).2).2).2)
  else ([],(m.next 2).2)
def jM:List Int:=[0,0,0,0,1,1,1,0,2,0,1,2]
def gR:List Int:=[-1,-1,-1,1,-1,-1,2,2,2,3,1,-1]
def eK (m:Mk):Int×Mk :=
 let x:=m.next 2
 if m.has 8 then (if (x.2.next 4).1=0 then 2 else x.1,(x.2.next 4).2) else x
def jx (t:Mk->Re×Mk) (m:Mk):Re×Mk :=
 let x:=t m
 if kg .and .i64 x.2.cL 32=0/\x.1.sK=true then x.2.set else x
def Mk.rep (t:Mk->Re×Mk) (m:Mk):Re×Mk :=
 let k:=m.next 12;let md:=eK k.2;let kid:=jx t md.2
 (.mk 4 [] [kid.1] ((jM[k.1.toNat]?).getD 0) ((gR[k.1.toNat]?).getD 0) md.1 0 false,kid.2)
def eh (m:Mk):Int×Mk :=
 let again (m:Mk):Int×Mk:=(1+(m.next (max 1 m.ai)).1,(m.next (max 1 m.ai)).2)
 if 4<m.ai+1 then again m
 else if 0<m.ai then (if (m.next 9).1=0 then again (m.next 9).2 else (m.ai+1,(m.next 9).2))
 else (m.ai+1,m)
def Mk.lz (m:Mk) (c:Int):Mk:=⟨m.l,m.pos,m.cL,m.left,c⟩
def Mk.less (m:Mk):Mk:=⟨m.l,m.pos,m.cL,m.left-1,m.ai⟩
def Mk.iI (t:Mk->Re×Mk) (m:Mk):Re×Mk :=
 let c:=eh m;let r:=t (c.2.lz (max c.2.ai c.1))
 (.mk 5 [] [r.1] 0 0 0 c.1 false,r.2)
def Mk.node (t:Mk->Re×Mk) (k:Int) (m:Mk):Re×Mk :=
 if k<5 then (Re.node 2 (aL t 4 0 m).1,(aL t 4 0 m).2)
 else if k<8 then (Re.node 3 (aL t 4 0 m).1,(aL t 4 0 m).2)
 else if k<12 then m.rep t
 else if k=12/\m.has 64=true then m.iI t
 else if k=13/\m.has 64=true then m.iI t
 else if k=14/\m.has 16=true then (.mk 11 [] [] 0 0 0 (m.next 6).1 false,(m.next 6).2)
 else if k=15/\m.has 4=true then
  let y:=(m.next 3).2.next 2
  (.mk (7+y.1) [] [(t y.2).1] 0 0 0 0 (decide ((m.next 3).1=0)),(t y.2).2)
 else if k=16/\m.has 8=true then (Re.node 9 [(t m).1],(t m).2)
 else if k=17/\m.has 1=true/\0<m.ai then (.mk 6 [] [] 0 0 0 (1+(m.next m.ai).1) false,(m.next m.ai).2)
 else if k=18/\m.has 2=true/\0<m.ai then
  let x:=m.next m.ai;let y:=t x.2;let z:=t y.2
  (.mk 10 [] [y.1,z.1] 0 0 0 (1+x.1) false,z.2)
 else m.set
def Mk.tree:Nat->Mk->Re×Mk
 |0,m =>
  let x:=m.less.next 20
  if x.1=0 then (Re.node 0 [],x.2) else x.2.set
 |d+1,m =>
  let x:=m.less.next 20
  if x.2.left<3\/(x.2.l.length:Int)<x.2.pos then (if x.1=0 then (Re.node 0 [],x.2) else x.2.set)
  else x.2.node (Mk.tree d) x.1
structure Mk.In (m:Mk) (b:Int):Prop where
 l:∀x∈m.l,l9 x
 p0:0<=m.pos
 p1:m.pos<=b
 l0:-b<=m.left
 l1:m.left<=1000000
 c0:0<=m.ai
 c1:m.ai<=4
theorem Mk.In.mono{b':Int} (h:m.In b) (hb:b<=b'):m.In b' :=
 ⟨h.l,h.p0,by have:=h.p1;omega,by have:=h.l0;omega,h.l1,h.c0,h.c1⟩
theorem Mk.In.next (h:m.In b) (n:Int):(m.next n).2.In (b+1) :=
 ⟨h.l,by have:=h.p0;simp only[Mk.next];omega,by have:=h.p1;simp only[Mk.next];omega,by have:=h.l0;simp only[Mk.next];omega,h.l1,h.c0,h.c1⟩
theorem Mk.In.set (h:m.In b):m.set.2.In (b+1):=h.next 15
def Good (t:Mk->Re×Mk) (c z:Int):Prop:=∀m b,0<=b->Mk.In m b->(t m).2.In (b+c)/\((t m).1.size:Int)<=z
theorem rS (s:List (Int×Int)):(Re.TY s).size=1:=rfl
theorem wj {t:Mk->Re×Mk}{c z:Int} (hc:0<=c) (ht:Good t c z):∀(f:Nat) (i:Int) (m:Mk) (b:Int),0<=b->m.In b ->
  (aL t f i m).2.In (b+f*(c+1))/\(Re.dw (aL t f i m).1:Int)<=((aL t f i m).1.length:Int)*z/\(aL t f i m).1.length<=f
 |0,i,m,b,_,h=>by simp only[aL];exact⟨by simpa using h,by simp [Re.dw],ak⟩
 |f+1,i,m,b,hb,h=>by
  simp only[aL];have hf:(0:Int)<=f*(c+1):=ak4 ae ae;have e:((f+1:Nat):Int)*(c+1)=f*(c+1)+c+1:=by rw[akC,Int.add_mul];simp;omega
  split
  ·have h1:=h.next 2;obtain⟨h2,h3⟩:=ht _ (b+1) ae h1;obtain⟨h4,h5,h6⟩:=wj hc ht f (i+1) _ (b+1+c) ae h2;refine⟨h4.mono ae,?_,by simpa using h6⟩;simp only[Re.dw,ajW,akC,Int.add_mul];omega
  ·exact⟨(h.next 2).mono ae,by simp [Re.dw],ak⟩
theorem DY (h:m.In b):(eK m).2.In (b+2):=by
 unfold eK;simp only;split
 ·have:=(h.next 2).next 4;rwa [show b+1+1=b+2 by omega]at this
 ·exact(h.next 2).mono ae
theorem JP {t:Mk->Re×Mk}{c:Int} (hc:0<=c) (hz:1<=z) (ht:Good t c z):Good (jx t) (c+1) z:=by
 intro m b hb h;obtain⟨h1,h2⟩:=ht m b hb h;unfold jx;simp only;split
 ·exact⟨by have:=h1.set;rwa [Int.add_assoc]at this,by simp only[Mk.set];rw[rS];omega⟩
 ·exact⟨h1.mono ae,h2⟩
theorem tg (op mn mx mode n:Int) (neg:Bool) (k:Re):((Re.mk op [] [k] mn mx mode n neg).size:Int)=1+k.size:=by simp [Re.size,Re.dw]
theorem So {t:Mk->Re×Mk}{c:Int} (hc:0<=c) (hz:1<=z) (ht:Good t c z):Good (Mk.rep t) (c+4) (z+1):=by intro m b hb h;have h1:=DY (h.next 12);obtain⟨h2,h3⟩:=JP hc hz ht _ _ ae h1;simp only[Mk.rep];exact⟨h2.mono ae,by rw[tg];omega⟩
theorem Ad (h:m.In b):(eh m).2.In (b+2)/\(eh m).2.ai=m.ai/\1<=(eh m).1/\(eh m).1<=4:=by
 have h0:=h.c0;have h1:=h.c1;have again:∀(m':Mk),m'.ai=m.ai->0<m.ai->0<=pick m'.l m'.pos (max 1 m'.ai)/\pick m'.l m'.pos (max 1 m'.ai)<m.ai:=by intro m' he hp;have:=cb m'.l m'.pos (max 1 m'.ai) ae;rw[he]at this ⊢;omega
 unfold eh;simp only;split
 ·have:=again m rfl ae;exact⟨(h.next (max 1 m.ai)).mono ae,rfl,by simp only[Mk.next];omega,by simp only[Mk.next];omega⟩
 ·split
  ·split
   ·have:=again (m.next 9).2 rfl ae;refine⟨?_,rfl,by simp only[Mk.next]at this ⊢;omega,by simp only[Mk.next]at this ⊢;omega⟩;have h2:=(h.next 9).next (max 1 (m.next 9).2.ai);rwa [show b+1+1=b+2 by omega]at h2
   ·exact⟨(h.next 9).mono ae,rfl,ae,ae⟩
  ·exact⟨h.mono ae,rfl,ae,ae⟩
theorem ym {t:Mk->Re×Mk}{c:Int} (hc:0<=c) (ht:Good t c z):Good (Mk.iI t) (c+2) (z+1):=by intro m b hb h;obtain⟨h1,h2,h3,h4⟩:=Ad h;simp only[Mk.iI];obtain⟨h5,h6⟩:=ht ((eh m).2.lz (max (eh m).2.ai (eh m).1)) (b+2) ae ⟨h1.l,h1.p0,h1.p1,h1.l0,h1.l1,by show 0<=max _ _;omega,by have:=h.c1;show max _ _<=4;omega⟩;exact⟨h5.mono ae,by rw[tg];omega⟩
theorem Qd {t:Mk->Re×Mk}{c:Int} (hc:0<=c) (hz:1<=z) (ht:Good t c z) (k:Int):Good (Mk.node t k) (4*(c+1)) (4*z+1):=by
 intro m b hb h;obtain⟨a1,a2,a3⟩:=wj hc ht 4 0 m b hb h;have a2':(Re.dw (aL t 4 0 m).1:Int)<=4*z:=by have:((aL t 4 0 m).1.length:Int)*z<=4*z:=akp ae ae;omega
 have a1':(aL t 4 0 m).2.In (b+4*(c+1)):=a1;have sz:∀op,((Re.node op (aL t 4 0 m).1).size:Int)<=4*z+1:=by intro op;simp only[Re.node,Re.size];omega
 unfold Mk.node;split
 ·exact⟨a1',sz _⟩
 split
 ·exact⟨a1',sz _⟩
 split
 ·obtain⟨h1,h2⟩:=So hc hz ht m b hb h;exact⟨h1.mono ae,ae⟩
 split
 ·obtain⟨h1,h2⟩:=ym hc ht m b hb h;exact⟨h1.mono ae,ae⟩
 split
 ·obtain⟨h1,h2⟩:=ym hc ht m b hb h;exact⟨h1.mono ae,ae⟩
 split
 ·exact⟨(h.next 6).mono ae,by simp [Re.size,Re.dw];omega⟩
 split
 ·simp only;obtain⟨h1,h2⟩:=ht _ (b+1+1) ae ((h.next 3).next 2);exact⟨h1.mono ae,by rw[tg];omega⟩
 split
 ·obtain⟨h1,h2⟩:=ht m b hb h;exact⟨h1.mono ae,by simp only[Re.node];rw[tg];omega⟩
 split
 ·exact⟨(h.next m.ai).mono ae,by simp [Re.size,Re.dw];omega⟩
 split
 ·simp only;obtain⟨h1,h2⟩:=ht _ (b+1) ae (h.next m.ai);obtain⟨h3,h4⟩:=ht _ (b+1+c) ae h1;exact⟨h3.mono ae,by simp only[Re.size,Re.dw];omega⟩
 ·exact⟨h.set.mono ae,by simp only[Mk.set];rw[rS];omega⟩
def cD:Nat->Int
 |0=>3
 |d+1=>2+4*(cD d+1)
def zD:Nat->Int
 |0=>1
 |d+1=>4*zD d+1
theorem kP:∀d,3<=cD d
 |0=>by simp [cD]
 |d+1=>by have:=kP d;simp only[cD];omega
theorem zw:∀d,1<=zD d
 |0=>by simp [zD]
 |d+1=>by have:=zw d;simp only[zD];omega
theorem Mk.In.left (h:m.In b):m.less.In (b+1) :=
 ⟨h.l,h.p0,by have:=h.p1;show m.pos<=_;omega,by have:=h.l0;show _<=m.left-1;omega,by have:=h.l1;show m.left-1<=_;omega,h.c0,h.c1⟩
theorem jL:∀d,Good (Mk.tree d) (cD d) (zD d)
 |0=>by
  intro m b hb h;have h1:=h.left.next 20;simp only[Mk.tree,cD,zD];split
  ·exact⟨h1.mono ae,by simp [Re.node,Re.size,Re.dw]⟩
  ·exact⟨h1.set.mono ae,by simp only[Mk.set];rw[rS];omega⟩
 |d+1=>by
  intro m b hb h;have h1:=h.left.next 20;have hc:=kP d;have hz:=zw d;simp only[Mk.tree,cD,zD];split
  ·split
   ·exact⟨h1.mono ae,by simp [Re.node,Re.size,Re.dw];omega⟩
   ·exact⟨h1.set.mono ae,by simp only[Mk.set];rw[rS];omega⟩
  ·obtain⟨h2,h3⟩:=Qd ae hz (jL d) ((m.less.next 20).1) _ (b+1+1) ae h1;exact⟨h2.mono ae,h3⟩
end Go.Proofs.YtjjfioalgbecmaaGreat
