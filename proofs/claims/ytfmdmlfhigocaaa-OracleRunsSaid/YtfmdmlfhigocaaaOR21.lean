/- A part of the proof (G15 G16 G17 F6 F7). -/
import Derived.Test.YtfmdmlfhigocaaaOR16
import Derived.Test.YtfmdmlfhigocaaaOR20
set_option linter.unusedSimpArgs false
set_option linter.unusedVariables false
set_option maxRecDepth 100000
set_option maxHeartbeats 80000000
namespace Go.Proofs.Ytfmdmlfhigocaaa
open Go.VL Go.Proofs.Try
variable{F:Int}{sl:Int}{st:bh}{s1:bh}{i:Int}{t:List Int}{sl':Int}{c:aD}{most:Int}{re:Re}{s:bh}{b:Int}{m:Mk}{z:Int}
theorem eL.same{e d:Int}{nc:Nat}{st':bh}{b:Bool} (h:eL t F sl e nc s1 b st') (he:s1.ends=st.ends) (hc:s1.ai=st.ai) (hs:st.steps+d<=s1.steps) (hd:0<=d) (hi:i<=e):eL t F (sl-d) i nc st b st':=by obtain⟨new,oP,h1,h2,h3,h4,h5,h6⟩:=h.more;exact⟨by have:=h.s0;omega,h.s1,h.empty,h.full,new,oP,by rw[h1,he],by rw[h2,hc],h3,ae,λx hx=>⟨by have:=h5 x hx;omega,(h5 x hx).2⟩,h6⟩
theorem mY.next{slp:Int} (H:mY t F i c sl st) (h:eL t F slp i c.length st false s1) (hs:slp+sl'<=sl):mY t F i c sl' s1:=by
 have he:s1.empty=false:=by
  cases hx:s1.empty with
  |false=>rfl
  |true=>have:=h.full hx;cases this
 have hd:=h.empty;rw[he]at hd;have hle:s1.steps<=F:=by have:=of_decide_eq_false hd.symm;omega
 obtain⟨new,oP,h1,h2,h3,h4,h5,h6⟩:=h.more;refine⟨H.i0,H.i1,H.ai,he,by have:=H.s0;have:=h.s0;omega,hle,?_,?_⟩
 ·have:=H.ends;rw[h1,ai6,aj9];omega
 ·rw[h1,h2,ai6,ai6,h3,H.same]
theorem Ends.via{task task':Task} (heq:∀rec,bI t F rec most task st=rec most task' st) (h:Ends t F most task' st) (h1:task'.iW<=task.iW) (h2:task.pos<=task'.pos) (h3:task'.ai.length=task.ai.length)
  (h4:task.EJ->task'.EJ):Ends t F most task st:=by
 obtain⟨n,b,st',k1,k2,k3⟩:=h;exact⟨n+1,b,st',by show bI t F (fV t F n) most task st=_;rw[heq];exact k1,(h3 ▸ k2.Ix h1 h2),λhs=>k3 (h4 hs)⟩
theorem Mb {t:List Int}{F most:Int}{i:Int}{c:aD}{next:Goal}{s0:Int}:∀(l:List Re) (st:bh),(∀k∈l,∀s:bh,s0<=s.steps->mY t F i c 0 s->Ends t F most (.run (.mk 0 k 0 0 next) i c) s)->s0<=st.steps->mY t F i c 0 st ->
  ∃n b s',po (λk st=>fV t F n most (.run (.mk 0 k 0 0 next) i c) st) l st=some (b,s')/\eL t F 0 i c.length st b s'
 |[],st,_,_,H=>⟨0,false,st,rfl,.no H.s1 H.empty (ajs _)⟩
 |k::l,st,h,hs,H=>by
  obtain⟨n1,b1,s1,k1,k2,_⟩:=h k aj st hs H;have k2:eL t F 0 i c.length st b1 s1:=k2;cases b1 with
  |true =>
   refine⟨n1,true,s1,?_,k2⟩;simp only[po,k1,rS]
  |false =>
   have H1:=H.next k2 (sl':=0) ae;obtain⟨n2,b2,s2,j1,j2⟩:=Mb l s1 (λk hk=>h k (by simp [hk])) (by have:=k2.s0;omega) H1;refine⟨max n1 n2,b2,s2,?_,k2.trans j2⟩;simp only[po,eN (Nat.le_max_left n1 n2) k1,rS];exact AW (λk st r hr=>eN (Nat.le_max_right n1 n2) hr) l s1 _ j1
theorem BP {t:List Int}{F:Int}{g:Goal}{c:aD}{s0:Int} (yf:eU g=0) (hc:jw t c):∀(m:Nat) (st:bh),(m:Int)<=t.length+1->(∀(k:Nat) (s:bh),k<m->s0<=s.steps->mY t F k c 0 s->Ends t F 1 (.run g k c) ⟨s.steps,false,[],[]⟩)->s0<=st.steps ->
  0<=st.steps->st.steps<=F+1->st.empty=decide (F<st.steps)->(st.ends.length:Int)<=st.steps->st.ai.length=st.ends.length ->
  ∃n r s',dh (λk st=>cF (fV t F n) g k c st) m st=some (r,s')/\st.steps<=s'.steps/\s'.steps<=F+1/\s'.empty=decide (F<s'.steps)/\s'.ends=st.ends/\s'.ai=st.ai/\(∀d,r=some d->jw t d/\d.length=c.length)
 |0,st,_,_,_,h0,h1,he,hl,hs=>⟨0,none,st,rfl,ajs _,h1,he,rfl,rfl,λd h=>(by cases h)⟩
 |m+1,st,hm,h,nR,h0,h1,he,hl,hs=>by
  by_cases hx:st.empty=true
  ·exact⟨0,none,st,by simp only[dh,be hx],ajs _,h1,he,rfl,rfl,λd h=>(by cases h)⟩
  have hx:st.empty=false:=by simpa using hx
  have hle:st.steps<=F:=by rw[hx]at he;have:=of_decide_eq_false he.symm;omega
  have H:mY t F (m:Nat) c 0 st:=⟨ae,ae,hc,hx,h0,hle,ae,hs⟩
  obtain⟨n1,r1,s1,k1,k2,k3,k4,k5,k6,k7,k8,_⟩:=r9 H (h m st ae nR H) yf;cases r1 with
  |some p =>
   obtain⟨e,d⟩:=p;refine⟨n1,some d,s1,?_,k2,k3,k4,k5,k6,λd' h=>?_⟩
   ·simp only[dh,hx,ajf,if_false,k1]
   ·cases h;have:=k8 e d rfl;exact⟨this.2.2.1,this.2.2.2⟩
  |none =>
   obtain⟨n2,r2,s2,j1,j2,j3,j4,j5,j6,j7⟩:=BP yf hc m s1 ae (λk s hk=>h k s ae) ae ae k3 k4 (by rw[k5];omega) (by rw[k5,k6];exact hs);refine⟨max n1 n2,r2,s2,?_,ae,j3,j4,by rw[j5,k5],by rw[j6,k6],j7⟩;simp only[dh,hx,ajf,if_false];rw[iV (λm task st r hr=>eN (Nat.le_max_left n1 n2) hr) k1];exact r8 (λk st r hr=>iV (λm task st r hr=>eN (Nat.le_max_right n1 n2) hr) hr) m s1 _ j1
theorem jw.with {t:List Int}{c:aD}{n fH to:Int} (h:jw t c) (h0:0<=fH) (h1:fH<=to) (h2:to<=t.length):jw t (ou c n fH to)/\(ou c n fH to).length=c.length:=by
 unfold ou;split
 ·refine⟨⟨by simpa using h.1,λp hp=>?_⟩,aj⟩;rcases aj4 hp with hp|rfl
  ·exact h.2 p hp
  ·exact .inr ⟨h0,h1,h2⟩
 ·exact⟨h,rfl⟩
theorem Sk (h:jw t c) (n:Int):TK t (bG c n):=by
 unfold bG;split
 ·exact .inl rfl
 ·rename_i hn;have aB:(n-1).toNat<c.length:=ae;rw[List.getD,ajg aB];exact h.2 _ (List.getElem_mem aB)
theorem Ge (h:re.every kH=true) (m:Int):(re.eo m).every kH=true:=by rw[Re.av]at h ⊢;exact⟨h.1,h.2⟩
theorem O0 {t:List Int}{i s:Int}{next:Goal} (hn:kG t i s next):∀l:List Re,(∀k∈l,k.every kH=true)->kG t i s (iB l next)
 |[],_=>hn
 |k::l,h=>⟨ae,h k aj,λh=>ae,λh=>ae,λh=>ae,λh=>ae,O0 hn l (λx hx=>h x (by simp [hx]))⟩
theorem mY.le (H:mY t F i c sl s) (h:sl'<=sl):mY t F i c sl' s :=
 ⟨H.i0,H.i1,H.ai,H.empty,H.s0,H.s1,by have:=H.ends;omega,H.same⟩
theorem mY.at{e:Int}{d:aD}{s2:bh} (H:mY t F i c sl s) (ZG:i<=e) (rh:e<=t.length) (hd:jw t d) (h1:s2.ends=s.ends) (h2:s2.ai=s.ai) (h3:s.steps<=s2.steps) (h4:s2.steps<=F) (h5:s2.empty=false) (h6:sl'<=sl+(s2.steps-s.steps)):mY t F e d sl' s2 :=
 ⟨by have:=H.i0;omega,rh,hd,h5,by have:=H.s0;omega,h4,by have:=H.ends;rw[h1];omega,by rw[h1,h2];exact H.same⟩
theorem A5 (h:s.empty=decide (F<s.steps)) (he:s.empty=false):s.steps<=F:=by rw[he]at h;have:=of_decide_eq_false h.symm;omega
theorem QH (IH:∀most task s,s1.steps<=s.steps->task.ok t s.steps->mY t F task.pos task.ai task.iW s->Ends t F most task s){next:Goal}
  (hsh:re.every kH=true) (hn:kG t i s1.steps next) (H:mY t F i c 1 s1) :
  ∃n b s',dI t (fV t F n) most re next i c s1=some (b,s')/\eL t F 1 i c.length s1 b s':=by
 obtain⟨h1,h2⟩:=(Re.av re).1 hsh;obtain⟨h1a,h1b,_,_⟩:=of_decide_eq_true h1;have hi0:=H.i0;have ql:=H.i1;have go:∀(g:Goal) (e:Int) (d:aD) (s2:bh),i<=e->e<=t.length->jw t d->d.length=c.length->s2.ends=s1.ends->s2.ai=s1.ai->s1.steps<=s2.steps->s2.steps<=F->s2.empty=false->kG t e s2.steps g ->
   ∃n b s',fV t F n most (.run g e d) s2=some (b,s')/\eL t F 1 i c.length s1 b s':=by
  intro g e d s2 a1 a2 a3 a4 a5 a6 a7 a8 a9 hg;have hs:=jd g;obtain⟨n,b,s',k1,k2,_⟩:=IH most (.run g e d) s2 a7 hg (H.at (sl':=eU g) a1 a2 a3 a5 a6 a7 a8 a9 ae);have k2:eL t F (eU g) e d.length s2 b s':=k2;rw[a4]at k2;have k3:=(k2.Ix (sl':=1) hs.2 (ajs _)).same (st:=s1) (d:=0) (i:=i) a5 a6 ae (ajs _) a1;rw[Int.sub_zero]at k3;exact⟨n,b,s',k1,k3⟩
 have here:∀g,kG t i s1.steps g->∃n b s',fV t F n most (.run g i c) s1=some (b,s')/\eL t F 1 i c.length s1 b s':=λg hg=>go g i c s1 (ajs _) ql H.ai rfl rfl rfl (ajs _) H.s1 H.empty hg;have no:eL t F 1 i c.length s1 false s1:=.no H.s1 H.empty ae;have fst:∀(aP:Re) (tail:Goal) (k:Int) (s:bh),aP.every kH=true->kG t k s.steps tail->s1.steps<=s.steps->mY t F k c 0 s->Ends t F 1 (.run (.mk 0 aP 0 0 tail) k c) ⟨s.steps,false,[],[]⟩:=by intro aP tail k s b1 b2 b3 Hs;refine IH 1 _ _ b3 ⟨ae,b1,λh=>ae,λh=>ae,λh=>ae,λh=>ae,b2⟩ ⟨Hs.i0,Hs.i1,Hs.ai,rfl,Hs.s0,Hs.s1,?_,rfl⟩;have:=Hs.s0;simp [Task.iW,eU];omega
 unfold dI;by_cases o1:re.op=1
 ·simp only[be o1];by_cases hc:i<t.length/\E7 re.set (oo t i)=true
  ·simp only[be hc];have q:=go next (i+1) c s1 ae ae H.ai rfl rfl rfl (ajs _) H.s1 H.empty (hn.mono ae (ajs _))
   exact q
  ·simp only[ap hc];exact⟨0,false,s1,rfl,no⟩
 simp only[ap o1];by_cases o2:re.op=2
 ·simp only[be o2];exact here _ (O0 hn re.kids h2)
 simp only[ap o2];by_cases o3:re.op=3
 ·simp only[be o3];obtain⟨n,b,s',k1,k2⟩:=Mb (most:=most) (next:=next) (s0:=s1.steps) re.kids s1 (λk hk s hs Hs=>IH most _ s hs ⟨ae,h2 k hk,λh=>ae,λh=>ae,λh=>ae,λh=>ae,hn.mono (ajs _) hs⟩ Hs) (ajs _) (H.le ae);exact⟨n,b,s',k1,k2.Ix ae (ajs _)⟩
 simp only[ap o3];by_cases o5:re.op=5
 ·simp only[be o5];cases hk:re.kids with
  |nil=>exact absurd hk (h1a ae)
  |cons aP l =>
   exact here _ ⟨ae,h2 aP (by rw[hk];simp),λh=>ae,λh=>ae,λh=>ae,λh=>ae,ae,hsh,λh=>ae,λh=>ae,λh=>ae,λ_=>⟨hi0,ajs _⟩,hn⟩
 simp only[ap o5];by_cases o6:re.op=6
 ·simp only[be o6];have pZ:=Sk H.ai re.n;generalize bG c re.n=x at *;by_cases c1:x.1<0
  ·simp only[be c1];exact⟨0,false,s1,rfl,no⟩
  simp only[ap c1];have hx:0<=x.1/\x.1<=x.2/\x.2<=t.length:=by
   rcases pZ with h|h
   ·rw[h]at c1;exact absurd aJ c1
   ·exact h
  simp only[ap (show ¬(x.2<x.1\/(t.length:Int)<x.2) by omega)];by_cases c3:t.length<i+x.2-x.1
  ·simp only[be c3];exact⟨0,false,s1,rfl,no⟩
  simp only[ap c3];by_cases c4:ph t x.1 i (x.2-x.1).toNat=true
  ·simp only[be c4];exact go next (i+x.2-x.1) c s1 ae ae H.ai rfl rfl rfl (ajs _) H.s1 H.empty (hn.mono ae (ajs _))
  ·simp only[ap c4];exact⟨0,false,s1,rfl,no⟩
 simp only[ap o6];by_cases o7:re.op=7\/re.op=8
 ·simp only[be o7];cases hk:re.kids with
  |nil=>exact absurd hk (h1a ae)
  |cons aP l =>
   have Cl:aP.every kH=true:=h2 aP (by rw[hk];simp);have look:∃n r s',lG (fV t F n) re.op aP i c s1=some (r,s')/\s1.steps<=s'.steps/\s'.steps<=F+1/\s'.empty=decide (F<s'.steps)/\s'.ends=s1.ends/\s'.ai=s1.ai/\(∀d,r=some d->jw t d/\d.length=c.length):=by
    unfold lG;by_cases p7:re.op=7
    ·simp only[be p7];obtain⟨n,r,s',k1,k2,k3,k4,k5,k6,k7,k8,_⟩:=r9 (H.le (sl':=0) ae) (fst aP .nil i s1 Cl trivial (ajs _) (H.le ae)) rfl;refine⟨n,r.map (·.2),s',by rw[k1],k2,k3,k4,k5,k6,λd hd=>?_⟩;obtain⟨p,hp,rfl⟩:=Option.map_eq_some_iff.1 hd;have:=k8 p.1 p.2 hp;exact⟨this.2.2.1,this.2.2.2⟩
    ·simp only[ap p7];refine BP (s0:=s1.steps) rfl H.ai _ s1 ae (λk s hk hs Hs=>fst aP _ k s Cl ?_ hs Hs) (ajs _) H.s0 (by have:=H.s1;omega) (by rw[H.empty,ce (by have:=H.s1;omega)]) (by have:=H.ends;omega) H.same;refine⟨ae,?_,λh=>ae,λh=>ae,λh=>ae,λh=>ae,trivial⟩;rw[Re.av];refine⟨bi ⟨λh=>by simp [Re.op]at h,λh=>by simp [Re.op]at h,by simp [Re.set],by simp [Re.kids]⟩,λk hk=>by simp [Re.kids]at hk⟩
   obtain⟨n1,r,s2,k1,k2,k3,k4,k5,k6,k7⟩:=look;by_cases he:s2.empty=true
   ·refine⟨n1,true,s2,?_,⟨k2,k3,k4,λ_=>rfl,[],[],by rw[k5];simp,by rw[k6];simp,rfl,cG,aj,aj⟩⟩;simp only[k1,be he]
   have he:s2.empty=false:=by simpa using he
   have hle:=A5 k4 he;have fno:eL t F 1 i c.length s1 false s2:=⟨k2,k3,k4,λh=>(by rw[he]at h;cases h),[],[],by rw[k5];simp,by rw[k6];simp,rfl,cG,aj,aj⟩
   by_cases e8:re.neg=true
   ·cases r with
    |some d =>
     refine⟨n1,false,s2,?_,fno⟩;simp only[k1,he,ajf,if_false,be e8]
    |none =>
     obtain⟨n2,b,s',j1,j2⟩:=go next i c s2 (ajs _) ql H.ai rfl k5 k6 k2 hle he (hn.mono (ajs _) k2)
     refine⟨max n1 n2,b,s',?_,j2⟩;have hm:=yj (rec:=fV t F n1) (rec':=fV t F (max n1 n2)) (λm task st r hr=>eN (Nat.le_max_left n1 n2) hr) k1;simp only[hm,he,ajf,if_false,be e8];exact eN (Nat.le_max_right n1 n2) j1
   ·cases r with
    |none =>
     refine⟨n1,false,s2,?_,fno⟩;simp only[k1,he,ajf,if_false,ap e8]
    |some d =>
     obtain⟨q1,q2⟩:=k7 d rfl;obtain⟨n2,b,s',j1,j2⟩:=go next i d s2 (ajs _) ql q1 q2 k5 k6 k2 hle he (hn.mono (ajs _) k2)
     refine⟨max n1 n2,b,s',?_,j2⟩;have hm:=yj (rec:=fV t F n1) (rec':=fV t F (max n1 n2)) (λm task st r hr=>eN (Nat.le_max_left n1 n2) hr) k1;simp only[hm,he,ajf,if_false,ap e8];exact eN (Nat.le_max_right n1 n2) j1
 simp only[ap o7];by_cases o9:re.op=9
 ·simp only[be o9];cases hk:re.kids with
  |nil=>exact absurd hk (h1a ae)
  |cons aP l =>
   have Cl:aP.every kH=true:=h2 aP (by rw[hk];simp);obtain⟨n1,r,s2,k1,k2,k3,k4,k5,k6,k7,k8,_⟩:=r9 (H.le (sl':=0) ae) (fst aP .nil i s1 Cl trivial (ajs _) (H.le ae)) rfl;by_cases he:s2.empty=true
   ·refine⟨n1,true,s2,?_,⟨k2,k3,k4,λ_=>rfl,[],[],by rw[k5];simp,by rw[k6];simp,rfl,cG,aj,aj⟩⟩;simp only[k1,be he]
   have he:s2.empty=false:=by simpa using he
   have hle:=A5 k4 he;cases r with
   |none =>
    refine⟨n1,false,s2,?_,⟨k2,k3,k4,λh=>(by rw[he]at h;cases h),[],[],by rw[k5];simp,by rw[k6];simp,rfl,cG,aj,aj⟩⟩;simp only[k1,he,ajf,if_false]
   |some p =>
    obtain⟨e,d⟩:=p;obtain⟨q1,q2,q3,q4⟩:=k8 e d rfl;obtain⟨n2,b,s',j1,j2⟩:=go next e d s2 q1 q2 q3 q4 k5 k6 k2 hle he (hn.mono q1 k2)
    refine⟨max n1 n2,b,s',?_,j2⟩;have hm:=iV (rec:=fV t F n1) (rec':=fV t F (max n1 n2)) (λm task st r hr=>eN (Nat.le_max_left n1 n2) hr) k1;simp only[hm,he,ajf,if_false];exact eN (Nat.le_max_right n1 n2) j1
 simp only[ap o9];by_cases Bt:re.op=10
 ·simp only[be Bt];have dX:=h1b Bt
  match hk:re.kids with
  |[]=>rw[hk]at dX;simp at dX
  |[_]=>rw[hk]at dX;simp at dX
  |yes::no'::l =>
   have hy:∀k,k=yes\/k=no'->k.every kH=true:=λk h=>h2 k (by rw[hk];rcases h with rfl|rfl <;> simp);refine here _ ⟨ae,hy _ ?_,λh=>ae,λh=>ae,λh=>ae,λh=>ae,hn⟩;split
   ·exact .inl rfl
   ·exact .inr rfl
 simp only[ap Bt];by_cases oh:re.op=11
 ·simp only[be oh];by_cases hc:bY re.n t i=true
  ·simp only[be hc];exact here next hn
  ·simp only[ap hc];exact⟨0,false,s1,rfl,no⟩
 simp only[ap oh];exact here next hn
theorem TA (ck:st.steps<=F) (IH:∀most task s,st.steps<s.steps->task.ok t s.steps->mY t F task.pos task.ai task.iW s->Ends t F most task s){k:Int}{next:Goal}
  (hsh:re.every kH=true) (o4:re.op=4) (hk0:0<=k) (AX:k<=st.steps) (hn:kG t i st.steps next) (hF:F<=1200000000000) (H:mY t F i c 0 st) (hm:re.mode≠2) :
  ∃n b s',qT F (fV t F n) most re k next i c st=some (b,s')/\eL t F 0 i c.length st b s'/\st.steps<s'.steps:=by
 have ql:=H.i1;have nR:=H.s0;obtain⟨h1,h2⟩:=(Re.av re).1 hsh;obtain⟨h1a,_⟩:=of_decide_eq_true h1;have rN:(st.step F).steps=st.steps+1:=rfl;unfold qT;simp only[ap hm];simp only[ap (show ¬(st.steps<0\/10000000000000<st.steps) by omega)];by_cases he:(st.step F).empty=true
 ·simp only[be he];exact⟨0,true,st.step F,rfl,.out ck he H.empty,by rw[rN];omega⟩
 simp only[ap he];have he:(st.step F).empty=false:=by simpa using he
 have hF1:st.steps+1<=F:=by simp only[bh.step,H.empty,ajx]at he;have:=of_decide_eq_false he;omega
 generalize ef:st.step F=s1 at *;have e1:s1.ends=st.ends:=by rw[<- ef];rfl
 have e2:s1.ai=st.ai:=by rw[<- ef];rfl
 have H1:∀sl,sl<=1->mY t F i c sl s1:=λsl yf=>H.at (ajs _) ql H.ai e1 e2 ae ae he ae;cases hk:re.kids with
 |nil=>exact absurd hk (h1a ae)
 |cons aP l =>
  have Cl:aP.every kH=true:=h2 aP (by rw[hk];simp);have UI:kG t i s1.steps next:=hn.mono (ajs _) ae
  have Jo:∀s:bh,s1.steps<=s.steps->kG t i s.steps (.mk 0 aP 0 0 (.mk 2 re k i next)):=λs hs =>
   ⟨ae,Cl,λh=>ae,λh=>ae,λh=>ae,λh=>ae,ae,hsh,λ_=>o4,λh=>ae,λ_=>⟨hk0,ae⟩,λh=>ae,UI.mono (ajs _) hs⟩
  have once:∀s,s1.steps<=s.steps->mY t F i c 0 s->∃n b s',fV t F n most (.run (.mk 0 aP 0 0 (.mk 2 re k i next)) i c) s=some (b,s')/\eL t F 0 i c.length s b s':=λs hs Hs=>by obtain⟨n,b,s',q1,q2,_⟩:=IH most (.run (.mk 0 aP 0 0 (.mk 2 re k i next)) i c) s ae (Jo s hs) Hs;exact⟨n,b,s',q1,q2⟩
  have nxt:∀s,s1.steps<=s.steps->mY t F i c 1 s->∃n b s',fV t F n most (.run next i c) s=some (b,s')/\eL t F 1 i c.length s b s':=λs hs Hs=>by
   have yf:=jd next
   obtain⟨n,b,s',q1,q2,_⟩:=IH most (.run next i c) s ae (UI.mono (ajs _) hs) (Hs.le yf.2);exact⟨n,b,s',q1,q2.Ix yf.2 (ajs _)⟩
  have fin:∀{b s'},eL t F 1 i c.length s1 b s'->eL t F 0 i c.length st b s'/\st.steps<s'.steps:=λ{b s'} h=>⟨by have:=h.same (st:=st) (d:=1) e1 e2 ae ae (ajs _);simpa using this,by have:=h.s0;omega⟩
  simp only;by_cases c2:k<re.mn
  ·simp only[be c2];obtain⟨n,b,s',q1,q2⟩:=once s1 (ajs _) (H1 0 ae);exact⟨n,b,s',q1,fin (q2.Ix ae (ajs _))⟩
  simp only[ap c2];have no:∀s,mY t F i c 0 s->eL t F 0 i c.length s false s:=λs Hs=>.no Hs.s1 Hs.empty (ajs _);by_cases m1:re.mode=1
  ·simp only[be m1];obtain⟨n1,b1,s2,q1,q2⟩:=nxt s1 (ajs _) (H1 1 (ajs _));cases b1 with
   |true=>exact⟨n1,true,s2,by rw[q1];rfl,fin q2⟩
   |false =>
    have H2:=(H1 1 (ajs _)).next q2 (sl':=0) ae;by_cases hM:re.mx=-1\/k<re.mx
    ·simp only[be hM];obtain⟨n2,b2,s3,j1,j2⟩:=once s2 (by have:=q2.s0;omega) H2;refine⟨max n1 n2,b2,s3,?_,fin (by have:=q2.trans j2;simpa using this)⟩;rw[eN (Nat.le_max_left n1 n2) q1];exact eN (Nat.le_max_right n1 n2) j1
    ·simp only[ap hM];exact⟨n1,false,s2,by rw[q1];rfl,fin q2⟩
  ·simp only[ap m1];by_cases hM:re.mx=-1\/k<re.mx
   ·simp only[be hM];obtain⟨n1,b1,s2,q1,q2⟩:=once s1 (ajs _) (H1 0 ae);cases b1 with
    |true=>exact⟨n1,true,s2,by rw[q1];rfl,fin (q2.Ix ae (ajs _))⟩
    |false =>
     have H2:=(H1 1 (ajs _)).next q2 (sl':=1) ae;obtain⟨n2,b2,s3,j1,j2⟩:=nxt s2 (by have:=q2.s0;omega) H2;refine⟨max n1 n2,b2,s3,?_,fin (by have:=q2.trans j2;simpa using this)⟩;rw[eN (Nat.le_max_left n1 n2) q1];exact eN (Nat.le_max_right n1 n2) j1
   ·simp only[ap hM];obtain⟨n1,b1,s2,q1,q2⟩:=nxt s1 (ajs _) (H1 1 (ajs _));exact⟨n1,b1,s2,q1,fin q2⟩
theorem TU (hF:F<=1200000000000):∀(N r:Nat) (most:Int) (task:Task) (st:bh),(F+1-st.steps).toNat<=N->task.AG<=r->task.ok t st.steps->mY t F task.pos task.ai task.iW st->Ends t F most task st:=by
 intro N;induction N with
 |zero=>intro r most task st hN _ _ H;have:=H.s1;omega
 |succ N ihN =>
  intro r;have later:∀(st:bh),(F+1-st.steps).toNat<=N+1->st.steps<=F->∀most task s,st.steps<s.steps->task.ok t s.steps->mY t F task.pos task.ai task.iW s->Ends t F most task s :=
   λst hN hs most task s aB jA H=>ihN task.AG most task s ae (ajc _) jA H
  induction r with
  |zero =>
   intro most task st hN hr jA H;cases task with
   |run g i c =>
    cases g with
    |nil =>
     have hi0:0<=i:=H.i0;have ql:i<=t.length:=H.i1;have wX:=H.ends;have ef:=H.s1;have yf:(Task.run Goal.nil i c).iW=1:=rfl;rw[yf]at wX;refine⟨1,decide (0<=most)&&decide (most<=(st.ends.length:Int)+1),{ st with ends:=st.ends++[i],ai:=st.ai++[c] },?_,?_,λh=>h.elim⟩
     ·show bI t F (fV t F 0) most (.run .nil i c) st=_;simp only[bI];rw[bd,be ⟨ae,H.same⟩]
     ·refine⟨ajs _,by show st.steps<=F+1;omega,?_,λh=>?_,[i],[c],rfl,rfl,rfl,?_,λe he=>?_,λd hd=>?_⟩
      ·show st.empty=decide (F<st.steps);rw[H.empty,ce ae]
      ·have h:st.empty=true:=h;rw[H.empty]at h;cases h
      ·rw[yf];show ((1:Nat):Int)<=st.steps-st.steps+1;omega
      ·rw[List.mem_singleton.1 he];exact⟨ajs _,ql⟩
      ·rw[List.mem_singleton.1 hd];exact⟨H.ai,rfl⟩
    |mk kind re k fH next =>
     exfalso;simp only[Task.AG,yR]at hr;split at hr
     ·split at hr <;> omega
     ·split at hr
      ·omega
      ·split at hr <;> omega
   |rep g i c =>
    cases g with
    |nil=>exact jA.elim
    |mk kind re k fH next =>
     exfalso;simp only[Task.AG]at hr;split at hr <;> omega
   |node g i c=>simp [Task.AG]at hr
  |succ r ihr =>
   intro most task st hN hr jA H;have hi0:=H.i0;have ql:=H.i1;have nR:=H.s0;have ef:=H.s1;cases task with
   |run g i c =>
    have hi0:0<=i:=hi0;have ql:i<=t.length:=ql;cases g with
    |nil=>exact ihr most _ st hN (Nat.zero_le _) jA H
    |mk kind re k fH next =>
     obtain⟨g0,g1,g2,g3,g4,g5,g6⟩:=jA;by_cases k1:kind=1
     ·have Ym:Task.AG (.rep (.mk kind re k fH next) i c)<=r:=by simp only[Task.AG,yR,be k1]at hr ⊢;split <;> rename_i hm <;> simp only[hm,if_true,if_false]at hr <;> omega
      refine Ends.via (task':=.rep (.mk kind re k fH next) i c) (λrec=>?_) (ihr most _ st hN Ym ⟨g1,g2 (.inl k1),(g3 k1).1,(g3 k1).2,g6⟩ ⟨hi0,ql,H.ai,H.empty,nR,ef,?_,H.same⟩) ?_ (ajs _) rfl (λh=>h.2)
      ·simp only[bI];rw[bd,be k1]
      ·have:=H.ends;have:=(jd (.mk kind re k fH next)).1;simp only[Task.iW]at *;omega
      ·simp [Task.iW];exact(jd _).1
     by_cases k2:kind=2
     ·have yf:eU (.mk kind re k fH next)=0:=by rw[eU,bd]
      have wX:=H.ends;simp only[Task.iW,yf]at wX;by_cases c1:re.mn<=k/\i=fH
      ·refine⟨1,false,st,?_,.no ef H.empty (by simp only[Task.iW,yf];omega),λh=>absurd h.1 k1⟩;show bI t F (fV t F 0) most _ st=_;simp only[bI];rw[bd,ap k1,be k2,be c1]
      ·have hk:=g4 k2;refine Ends.via (task':=.run (.mk 1 re (k+1) 0 next) i c) (λrec=>?_) (ihr most _ st hN ?_ ⟨ae,g1,λ_=>g2 (.inr k2),λ_=>⟨ae,ae⟩,λh=>ae,λh=>ae,g6⟩ ⟨hi0,ql,H.ai,H.empty,nR,ef,?_,H.same⟩) ?_ (ajs _) rfl (λh=>absurd h.1 k1)
       ·simp only[bI];rw[bd,ap k1,be k2,ap c1,bd]
       ·simp only[Task.AG,yR]at hr ⊢;rw[ap k1,be k2]at hr;simp only[if_true];split <;> omega
       ·simp [Task.iW,eU];omega
       ·simp only[Task.iW,yf];simp [eU]
     by_cases k3:kind=3
     ·have hf:=g5 k3;have yf:eU (.mk kind re k fH next)=eU next:=by rw[eU,be (.inl k3)]
      obtain⟨w1,w2⟩:=jw.with (n:=re.n) (H.ai:jw t c) hf.1 hf.2 ql;have iy:c.length<=1000000000:=(H.ai:jw t c).1;refine Ends.via (task':=.run next i (ou c re.n fH i)) (λrec=>?_) (ihr most _ st hN ?_ g6 ⟨hi0,ql,w1,H.empty,nR,ef,?_,H.same⟩) ?_ (ajs _) w2 (λh=>absurd h.1 k1)
      ·simp only[bI];rw[bd,ap k1,ap k2,be k3,bd]
      ·simp only[Task.AG]at hr ⊢;rw[yR,ap k1,ap k2,be (.inl k3)]at hr;omega
      ·have:=H.ends;simp only[Task.iW,yf]at this ⊢;exact this
      ·simp only[Task.iW,yf];exact ajs _
     by_cases k4:kind=4
     ·have yf:eU (.mk kind re k fH next)=eU next:=by rw[eU,be (.inr k4)]
      by_cases c1:i=fH
      ·refine Ends.via (task':=.run next i c) (λrec=>?_) (ihr most _ st hN ?_ g6 ⟨hi0,ql,H.ai,H.empty,nR,ef,?_,H.same⟩) ?_ (ajs _) rfl (λh=>absurd h.1 k1)
       ·simp only[bI];rw[bd,ap k1,ap k2,ap k3,be k4,be c1]
       ·simp only[Task.AG]at hr ⊢;rw[yR,ap k1,ap k2,be (.inr k4)]at hr;omega
       ·have:=H.ends;simp only[Task.iW,yf]at this ⊢;exact this
       ·simp only[Task.iW,yf];exact ajs _
      ·refine⟨1,false,st,?_,.no ef H.empty (jd _).1,λh=>absurd h.1 k1⟩;show bI t F (fV t F 0) most _ st=_;simp only[bI];rw[bd,ap k1,ap k2,ap k3,be k4,ap c1]
     have yf:eU (.mk kind re k fH next)=0:=by rw[eU,bd]
     refine Ends.via (task':=.node (.mk kind re k fH next) i c) (λrec=>?_) (ihr most _ st hN ?_ ⟨g1,g6⟩ ⟨hi0,ql,H.ai,H.empty,nR,ef,?_,H.same⟩) ?_ (ajs _) rfl (λh=>absurd h.1 k1)
     ·simp only[bI];rw[bd,ap k1,ap k2,ap k3,ap k4]
     ·simp only[Task.AG]at hr ⊢;rw[yR,ap k1,ap k2,bd]at hr;omega
     ·have:=H.ends;simp only[Task.iW,yf]at this ⊢;exact this
     ·simp only[Task.iW,yf];exact ajs _
   |rep g i c =>
    have hi0:0<=i:=hi0;have ql:i<=t.length:=ql;cases g with
    |nil=>exact jA.elim
    |mk kind re k fH next =>
     obtain⟨g1,g2,g3,g4,g5⟩:=jA;have wX:(st.ends.length:Int)+0<=st.steps:=H.ends;by_cases hm:re.mode=2
     ·have hf:=r9 (t:=t) (F:=F) (g:=.mk 1 (re.eo 0) 0 0 .nil) (i:=i) (c:=c) (sl:=0) (st:=st) ⟨hi0,ql,H.ai,H.empty,nR,ef,wX,H.same⟩
       (ihr 1 _ _ (by simpa using hN) (by
        simp only[Task.AG,yR]at hr ⊢;simp only[hm,if_true]at hr;have dP:¬(re.eo 0).mode=2:=by simp [Re.eo,Re.mode]
        simp only[if_true];rw[ap dP];omega) ⟨ae,Ge g1 0,λ_=>g2,λ_=>⟨ajs _,nR⟩,λh=>ae,λh=>ae,trivial⟩ ⟨hi0,ql,H.ai,rfl,nR,ef,(by simp [Task.iW,eU];exact nR),rfl⟩) (by simp [eU])
      obtain⟨n1,r1,s1,j1,j2,j3,j4,j5,j6,j7,j8,j9⟩:=hf;have aB:st.steps<s1.steps:=j9 ⟨rfl,by simp [Re.eo,Re.mode]⟩;have PT:¬(Task.rep (.mk kind re k fH next) i c).EJ:=λh=>h hm;have uS:∀n r',qT F (fV t F n) most re k next i c st=r'->fV t F (n+1) most (.rep (.mk kind re k fH next) i c) st=r':=λn r' h=>by show bI t F (fV t F n) most _ st=_;simp only[bI];rw[bd];exact h
      cases r1 with
      |none =>
       refine⟨n1+1,s1.empty,s1,uS n1 _ ?_,⟨j2,j3,j4,λh=>h,[],[],by rw[j5];simp,by rw[j6];simp,rfl,by simp [Task.iW];omega,aj,aj⟩,λh=>(PT h).elim⟩;unfold qT;rw[be hm,j1]
      |some p =>
       obtain⟨e,d⟩:=p;obtain⟨q1,q2,q3,q4⟩:=j8 e d rfl;have he:s1.empty=false:=by
        cases hx:s1.empty with
        |false=>rfl
        |true=>have:=j7 hx;cases this
       have hle:=A5 j4 he;have yf:=jd next
       obtain⟨n2,b,s',l1,l2,_⟩:=later st hN ef most (.run next e d) s1 aB (g5.mono q1 j2) ⟨Int.le_trans hi0 q1,q2,q3,he,ae,hle,by rw[j5];simp only[Task.iW];omega,by rw[j5,j6];exact H.same⟩;have l2:eL t F (eU next) e d.length s1 b s':=l2;rw[q4]at l2;have l3:=(l2.Ix (sl':=1) yf.2 (ajs _)).same (st:=st) (d:=1) (i:=i) j5 j6 ae ae q1;refine⟨max n1 n2+1,b,s',uS _ _ ?_,(show eL t F 0 i c.length st b s' by simpa using l3),λh=>(PT h).elim⟩;unfold qT;have hmn:=iV (rec:=fV t F n1) (rec':=fV t F (max n1 n2)) (λm task st r hr=>eN (Nat.le_max_left n1 n2) hr) j1;rw[be hm,hmn];exact eN (Nat.le_max_right n1 n2) l1
     ·obtain⟨n,b,s',q1,q2,q3⟩:=TA ef (later st hN ef) (most:=most) g1 g2 g3 g4 g5 hF (⟨hi0,ql,H.ai,H.empty,nR,ef,wX,H.same⟩:mY t F i c 0 st) hm;refine⟨n+1,b,s',?_,q2,λ_=>q3⟩;show bI t F (fV t F n) most _ st=_;simp only[bI];rw[bd];exact q1
   |node g i c =>
    have hi0:0<=i:=hi0;have ql:i<=t.length:=ql;cases g with
    |nil=>exact jA.elim
    |mk kind re k fH next =>
     obtain⟨g1,g6⟩:=jA;have wX:(st.ends.length:Int)+0<=st.steps:=H.ends;obtain⟨h1,h2⟩:=(Re.av re).1 g1;obtain⟨_,_,h1c,h1d⟩:=of_decide_eq_true h1;have iy:c.length<=1000000000:=(H.ai:jw t c).1;by_cases o4:re.op=4
     ·refine Ends.via (task':=.rep (.mk 1 re 0 0 next) i c) (λrec=>?_) (ihr most _ st hN ?_ ⟨g1,o4,ajs _,nR,g6⟩ ⟨hi0,ql,H.ai,H.empty,nR,ef,wX,H.same⟩) (ajs _) (ajs _) rfl (λh=>absurd o4 h)
      ·simp only[bI];rw[bd,be o4]
      ·simp only[Task.AG]at hr ⊢;split <;> omega
     ·have rN:(st.step F).steps=st.steps+1:=rfl;have uS:∀n,fV t F (n+1) most (.node (.mk kind re k fH next) i c) st=if (st.step F).empty then some (true,st.step F) else dI t (fV t F n) most re next i c (st.step F):=λn=>by show bI t F (fV t F n) most _ st=_;simp only[bI];rw[bd,ap o4,bd,bd]
      by_cases he:(st.step F).empty=true
      ·refine⟨1,true,st.step F,?_,.out ef he H.empty,λ_=>by rw[rN];omega⟩;rw[uS 0,be he]
      ·have jn:(st.step F).empty=false:=by simpa using he
       have hF1:st.steps+1<=F:=by simp only[bh.step,H.empty,ajx]at jn;have:=of_decide_eq_false jn;omega
       have H1:mY t F i c 1 (st.step F):=⟨hi0,ql,H.ai,jn,by rw[rN];omega,by rw[rN];omega,by rw[rN];show (st.ends.length:Int)+1<=st.steps+1;omega,H.same⟩
       obtain⟨n,b,s',q1,q2⟩:=QH (λmost task s hs adr H'=>later st hN ef most task s (by rw[rN]at hs;omega) adr H') (most:=most) g1 (g6.mono (ajs _) (by rw[rN];omega)) H1;refine⟨n+1,b,s',?_,(show eL t F 0 i c.length st b s' by simpa using q2.step),λ_=>by have:=q2.s0;rw[rN]at this;omega⟩;rw[uS n,ap he];exact q1
def Mk.has (m:Mk) (u:Int):Bool:=decide (0<iw .and .i64 m.dC u)
def Re.node (op:Int) (kids:List Re):Re:=.mk op [] kids 0 0 0 0 false
def bE (t:Mk->Re×Mk):Nat->Int->Mk->List Re×Mk
 |0,_,m=>([],m)
 |f+1,i,m =>
  if i<2+(m.next 2).1 then
   (((t (m.next 2).2).1)::(bE t f (i+1) (t (m.next 2).2).2).1,(bE t f (i+1) (t (m.next 2).2).2).2)
  else ([],(m.next 2).2)
def nA:List Int:=[0,0,0,0,1,1,1,0,2,0,1,2]
def kZ:List Int:=[-1,-1,-1,1,-1,-1,2,2,2,3,1,-1]
def jB (m:Mk):Int×Mk :=
 let x:=m.next 2
 if m.has 8 then (if (x.2.next 4).1=0 then 2 else x.1,(x.2.next 4).2) else x
def mA (t:Mk->Re×Mk) (m:Mk):Re×Mk :=
 let x:=t m
 if iw .and .i64 x.2.dC 32=0/\x.1.sB=true then x.2.set else x
def Mk.rep (t:Mk->Re×Mk) (m:Mk):Re×Mk :=
 let k:=m.next 12;let md:=jB k.2;let aP:=mA t md.2
 (.mk 4 [] [aP.1] ((nA[k.1.toNat]?).getD 0) ((kZ[k.1.toNat]?).getD 0) md.1 0 false,aP.2)
def fk (m:Mk):Int×Mk :=
 let again (m:Mk):Int×Mk:=(1+(m.next (max 1 m.ai)).1,(m.next (max 1 m.ai)).2)
 if 4<m.ai+1 then again m
 else if 0<m.ai then (if (m.next 9).1=0 then again (m.next 9).2 else (m.ai+1,(m.next 9).2))
 else (m.ai+1,m)
def Mk.mb (m:Mk) (c:Int):Mk:=⟨m.l,m.pos,m.dC,m.left,c⟩
def Mk.less (m:Mk):Mk:=⟨m.l,m.pos,m.dC,m.left-1,m.ai⟩
def Mk.jE (t:Mk->Re×Mk) (m:Mk):Re×Mk :=
 let c:=fk m;let r:=t (c.2.mb (max c.2.ai c.1))
 (.mk 5 [] [r.1] 0 0 0 c.1 false,r.2)
def Mk.node (t:Mk->Re×Mk) (k:Int) (m:Mk):Re×Mk :=
 if k<5 then (Re.node 2 (bE t 4 0 m).1,(bE t 4 0 m).2)
 else if k<8 then (Re.node 3 (bE t 4 0 m).1,(bE t 4 0 m).2)
 else if k<12 then m.rep t
 else if k=12/\m.has 64=true then m.jE t
 else if k=13/\m.has 64=true then m.jE t
 else if k=14/\m.has 16=true then (.mk 11 [] [] 0 0 0 (m.next 6).1 false,(m.next 6).2)
 else if k=15/\m.has 4=true then
  let y:=(m.next 3).2.next 2
  (.mk (7+y.1) [] [(t y.2).1] 0 0 0 0 (decide ((m.next 3).1=0)),(t y.2).2)
 else if k=16/\m.has 8=true then (Re.node 9 [(t m).1],(t m).2)
 else if k=17/\m.has 1=true/\0<m.ai then (.mk 6 [] [] 0 0 0 (1+(m.next m.ai).1) false,(m.next m.ai).2)
 else if k=18/\m.has 2=true/\0<m.ai then
  let x:=m.next m.ai;let y:=t x.2;let z:=t y.2
  (.mk 10 [] [y.1,z.1] 0 0 0 (1+x.1) false,z.2)
 else m.set
def Mk.tree:Nat->Mk->Re×Mk
 |0,m =>
  let x:=m.less.next 20
  if x.1=0 then (Re.node 0 [],x.2) else x.2.set
 |d+1,m =>
  let x:=m.less.next 20
  if x.2.left<3\/(x.2.l.length:Int)<x.2.pos then (if x.1=0 then (Re.node 0 [],x.2) else x.2.set)
  else x.2.node (Mk.tree d) x.1
structure Mk.In (m:Mk) (b:Int):Prop where
 l:∀x∈m.l,fx x
 p0:0<=m.pos
 p1:m.pos<=b
 l0:-b<=m.left
 l1:m.left<=1000000
 c0:0<=m.ai
 c1:m.ai<=4
theorem Mk.In.mono{b':Int} (h:m.In b) (hb:b<=b'):m.In b' :=
 ⟨h.l,h.p0,by have:=h.p1;omega,by have:=h.l0;omega,h.l1,h.c0,h.c1⟩
theorem Mk.In.next (h:m.In b) (n:Int):(m.next n).2.In (b+1) :=
 ⟨h.l,by have:=h.p0;simp only[Mk.next];omega,by have:=h.p1;simp only[Mk.next];omega,by have:=h.l0;simp only[Mk.next];omega,h.l1,h.c0,h.c1⟩
theorem Mk.In.set (h:m.In b):m.set.2.In (b+1):=h.next 15
def Good (t:Mk->Re×Mk) (c z:Int):Prop:=∀m b,0<=b->Mk.In m b->(t m).2.In (b+c)/\((t m).1.size:Int)<=z
theorem sV (s:List (Int×Int)):(Re.TW s).size=1:=rfl
theorem xF {t:Mk->Re×Mk}{c z:Int} (hc:0<=c) (ht:Good t c z):∀(f:Nat) (i:Int) (m:Mk) (b:Int),0<=b->m.In b ->
  (bE t f i m).2.In (b+f*(c+1))/\(Re.bT (bE t f i m).1:Int)<=((bE t f i m).1.length:Int)*z/\(bE t f i m).1.length<=f
 |0,i,m,b,_,h=>by simp only[bE];exact⟨by simpa using h,by simp [Re.bT],aj⟩
 |f+1,i,m,b,hb,h=>by
  simp only[bE];have hf:(0:Int)<=f*(c+1):=akj ae ae;have e:((f+1:Nat):Int)*(c+1)=f*(c+1)+c+1:=by rw[aj9,Int.add_mul];simp;omega
  split
  ·have h1:=h.next 2;obtain⟨h2,h3⟩:=ht _ (b+1) ae h1;obtain⟨h4,h5,h6⟩:=xF hc ht f (i+1) _ (b+1+c) ae h2;refine⟨h4.mono ae,?_,by simpa using h6⟩;simp only[Re.bT,ai8,aj9,Int.add_mul];omega
  ·exact⟨(h.next 2).mono ae,by simp [Re.bT],aj⟩
theorem Fo (h:m.In b):(jB m).2.In (b+2):=by
 unfold jB;simp only;split
 ·have:=(h.next 2).next 4;rwa [show b+1+1=b+2 by omega]at this
 ·exact(h.next 2).mono ae
theorem Ky {t:Mk->Re×Mk}{c:Int} (hc:0<=c) (hz:1<=z) (ht:Good t c z):Good (mA t) (c+1) z:=by
 intro m b hb h;obtain⟨h1,h2⟩:=ht m b hb h;unfold mA;simp only;split
 ·exact⟨by have:=h1.set;rwa [Int.add_assoc]at this,by simp only[Mk.set];rw[sV];omega⟩
 ·exact⟨h1.mono ae,h2⟩
theorem uC (op mn mx mode n:Int) (neg:Bool) (k:Re):((Re.mk op [] [k] mn mx mode n neg).size:Int)=1+k.size:=by simp [Re.size,Re.bT]
theorem SF {t:Mk->Re×Mk}{c:Int} (hc:0<=c) (hz:1<=z) (ht:Good t c z):Good (Mk.rep t) (c+4) (z+1):=by intro m b hb h;have h1:=Fo (h.next 12);obtain⟨h2,h3⟩:=Ky hc hz ht _ _ ae h1;simp only[Mk.rep];exact⟨h2.mono ae,by rw[uC];omega⟩
theorem Bc (h:m.In b):(fk m).2.In (b+2)/\(fk m).2.ai=m.ai/\1<=(fk m).1/\(fk m).1<=4:=by
 have h0:=h.c0;have h1:=h.c1;have again:∀(m':Mk),m'.ai=m.ai->0<m.ai->0<=pick m'.l m'.pos (max 1 m'.ai)/\pick m'.l m'.pos (max 1 m'.ai)<m.ai:=by intro m' he hp;have:=cB m'.l m'.pos (max 1 m'.ai) ae;rw[he]at this ⊢;omega
 unfold fk;simp only;split
 ·have:=again m rfl ae;exact⟨(h.next (max 1 m.ai)).mono ae,rfl,by simp only[Mk.next];omega,by simp only[Mk.next];omega⟩
 ·split
  ·split
   ·have:=again (m.next 9).2 rfl ae;refine⟨?_,rfl,by simp only[Mk.next]at this ⊢;omega,by simp only[Mk.next]at this ⊢;omega⟩;have h2:=(h.next 9).next (max 1 (m.next 9).2.ai);rwa [show b+1+1=b+2 by omega]at h2
   ·exact⟨(h.next 9).mono ae,rfl,ae,ae⟩
  ·exact⟨h.mono ae,rfl,ae,ae⟩
theorem zC {t:Mk->Re×Mk}{c:Int} (hc:0<=c) (ht:Good t c z):Good (Mk.jE t) (c+2) (z+1):=by intro m b hb h;obtain⟨h1,h2,h3,h4⟩:=Bc h;simp only[Mk.jE];obtain⟨h5,h6⟩:=ht ((fk m).2.mb (max (fk m).2.ai (fk m).1)) (b+2) ae ⟨h1.l,h1.p0,h1.p1,h1.l0,h1.l1,by show 0<=max _ _;omega,by have:=h.c1;show max _ _<=4;omega⟩;exact⟨h5.mono ae,by rw[uC];omega⟩
theorem QY {t:Mk->Re×Mk}{c:Int} (hc:0<=c) (hz:1<=z) (ht:Good t c z) (k:Int):Good (Mk.node t k) (4*(c+1)) (4*z+1):=by
 intro m b hb h;obtain⟨a1,a2,a3⟩:=xF hc ht 4 0 m b hb h;have a2':(Re.bT (bE t 4 0 m).1:Int)<=4*z:=by have:((bE t 4 0 m).1.length:Int)*z<=4*z:=ajG ae ae;omega
 have a1':(bE t 4 0 m).2.In (b+4*(c+1)):=a1;have sz:∀op,((Re.node op (bE t 4 0 m).1).size:Int)<=4*z+1:=by intro op;simp only[Re.node,Re.size];omega
 unfold Mk.node;split
 ·exact⟨a1',sz _⟩
 split
 ·exact⟨a1',sz _⟩
 split
 ·obtain⟨h1,h2⟩:=SF hc hz ht m b hb h;exact⟨h1.mono ae,ae⟩
 split
 ·obtain⟨h1,h2⟩:=zC hc ht m b hb h;exact⟨h1.mono ae,ae⟩
 split
 ·obtain⟨h1,h2⟩:=zC hc ht m b hb h;exact⟨h1.mono ae,ae⟩
 split
 ·exact⟨(h.next 6).mono ae,by simp [Re.size,Re.bT];omega⟩
 split
 ·simp only;obtain⟨h1,h2⟩:=ht _ (b+1+1) ae ((h.next 3).next 2);exact⟨h1.mono ae,by rw[uC];omega⟩
 split
 ·obtain⟨h1,h2⟩:=ht m b hb h;exact⟨h1.mono ae,by simp only[Re.node];rw[uC];omega⟩
 split
 ·exact⟨(h.next m.ai).mono ae,by simp [Re.size,Re.bT];omega⟩
 split
 ·simp only;obtain⟨h1,h2⟩:=ht _ (b+1) ae (h.next m.ai);obtain⟨h3,h4⟩:=ht _ (b+1+c) ae h1;exact⟨h3.mono ae,by simp only[Re.size,Re.bT];omega⟩
 ·exact⟨h.set.mono ae,by simp only[Mk.set];rw[sV];omega⟩
def cD:Nat->Int
 |0=>3
 |d+1=>2+4*(cD d+1)
def zD:Nat->Int
 |0=>1
 |d+1=>4*zD d+1
theorem lK:∀d,3<=cD d
 |0=>by simp [cD]
 |d+1=>by have:=lK d;simp only[cD];omega
theorem AO:∀d,1<=zD d
 |0=>by simp [zD]
 |d+1=>by have:=AO d;simp only[zD];omega
theorem Mk.In.left (h:m.In b):m.less.In (b+1) :=
 ⟨h.l,h.p0,by have:=h.p1;show m.pos<=_;omega,by have:=h.l0;show _<=m.left-1;omega,by have:=h.l1;show m.left-1<=_;omega,h.c0,h.c1⟩
theorem ky:∀d,Good (Mk.tree d) (cD d) (zD d)
 |0=>by
  intro m b hb h;have h1:=h.left.next 20;simp only[Mk.tree,cD,zD];split
  ·exact⟨h1.mono ae,by simp [Re.node,Re.size,Re.bT]⟩
  ·exact⟨h1.set.mono ae,by simp only[Mk.set];rw[sV];omega⟩
 |d+1=>by
  intro m b hb h;have h1:=h.left.next 20;have hc:=lK d;have hz:=AO d;simp only[Mk.tree,cD,zD];split
  ·split
   ·exact⟨h1.mono ae,by simp [Re.node,Re.size,Re.bT];omega⟩
   ·exact⟨h1.set.mono ae,by simp only[Mk.set];rw[sV];omega⟩
  ·obtain⟨h2,h3⟩:=QY ae hz (ky d) ((m.less.next 20).1) _ (b+1+1) ae h1;exact⟨h2.mono ae,h3⟩
end Go.Proofs.Ytfmdmlfhigocaaa
