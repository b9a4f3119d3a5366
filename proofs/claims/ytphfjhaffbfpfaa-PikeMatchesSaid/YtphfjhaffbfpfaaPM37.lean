/- A part of the proof (K39 K40 K41 K42). -/
import Derived.Test.YtphfjhaffbfpfaaPM35
import Derived.Test.YtphfjhaffbfpfaaPM22
import Derived.Test.YtphfjhaffbfpfaaPM36
set_option linter.all false
set_option maxRecDepth 100000
set_option maxHeartbeats 80000000
namespace Go.Proofs.Ytphfjhaffbfpfaa
open Go.VL Go.Proofs.Try
variable{hi:Int}{ah:Int}{lo:Int}{aK:Bool}{a:Int}{l:List Re}
structure qm (lo hi ah:Int) (aK:Bool) (x:bR):Prop where
 un:dk x=true
 op:x.op=0\/(x.op=1/\wN x.set=0/\M4 aK x.set=true)\/(x.op=2/\lo<=x.x/\x.x<=hi/\lo<=x.y/\x.y<=hi)\/(x.op=3/\lo<=x.x/\x.x<=hi)\/(x.op=4/\0<=x.n/\x.n<2*ah)\/(x.op=5/\0<=x.n/\x.n<=5)
theorem qm.mono {PY hi':Int}{x:bR} (h:qm lo hi ah aK x) (h1:PY<=lo) (h2:hi<=hi'):qm PY hi' ah aK x:=⟨h.un,by
 rcases h.op with o|o|o|o|o
 ·exact .inl o
 ·exact .inr (.inl o)
 ·exact .inr (.inr (.inl (by omega)))
 ·exact .inr (.inr (.inr (.inl (by omega))))
 ·exact .inr (.inr (.inr (.inr (by omega))))⟩
theorem D8 {b mode:Int} (h:lo<=a/\a<=hi/\lo<=b/\b<=hi):qm lo hi ah aK (n6 mode a b):=by
 unfold n6;split
 ·exact⟨by simp [dk],by simp;omega⟩
 ·exact⟨by simp [dk],by simp;omega⟩
theorem Kd (h:lo<=a/\a<=hi):qm lo hi ah aK (s8 a):=⟨by simp [dk,s8],by simp [s8];omega⟩
theorem J7 (h:0<=a/\a<2*ah):qm lo hi ah aK (kE a):=⟨by simp [dk,kE],by simp [kE];omega⟩
theorem uE {c:Int->List bR}{x:bR}:∀(k:Nat) (f:Int),x∈bZ c k f->∃j,f<=j/\j+((c j).length:Int)<=f+(bZ c k f).length/\x∈c j
 |0,f,h=>by simp [bZ]at h
 |k+1,f,h=>by
  rw[bZ]at h ⊢;rw[adx];rcases List.mem_append.1 h with h|h
  ·obtain⟨j,h1,h2,h3⟩:=uE k f h;exact⟨j,h1,by push_cast;omega,h3⟩
  ·exact⟨_,by omega,by push_cast;omega,h⟩
theorem xq {c:Int->List bR}{mode fin:Int}{x:bR}:∀(k:Nat) (f:Int),x∈dU c mode fin k f->∃j,f<=j/\j+((c j).length:Int)<=f+(dU c mode fin k f).length/\(x∈c j\/x=n6 mode j fin)
 |0,f,h=>by simp [dU]at h
 |k+1,f,h=>by
  rw[dU]at h ⊢;rw[adx,adA];rcases List.mem_append.1 h with h|h
  ·obtain⟨j,h1,h2,h3⟩:=xq k f h;exact⟨j,h1,by push_cast;omega,h3⟩
  ·rcases List.mem_cons.1 h with h|h
   ·exact⟨_,by omega,by push_cast;omega,.inr h⟩
   ·exact⟨_,by omega,by push_cast;omega,.inl h⟩
theorem IJ (h:∀k∈l,∀f,∀x∈k.code f,qm f (f+(k.code f).length) ah aK x):∀f,∀x∈Re.da l f,qm f (f+(Re.da l f).length) ah aK x:=by
 induction l with
 |nil=>intro f x hx;simp [Re.da]at hx
 |cons k l ih =>
  intro f x hx;have h1:=h k (by simp) f;have h2:=ih (λy hy=>h y (by simp [hy])) (f+(k.code f).length);rw[Re.da]at hx ⊢;rw[adx];rcases List.mem_append.1 hx with hx|hx
  ·exact(h1 x hx).mono (ady _) (by push_cast;omega)
  ·exact(h2 x hx).mono (by omega) (by push_cast;omega)
theorem Jp (h:∀k∈l,∀f,∀x∈k.code f,qm f (f+(k.code f).length) ah aK x):∀f,∀x∈Re.dA l f,qm f (f+(Re.dA l f).length) ah aK x:=by
 induction l with
 |nil=>intro f x hx;simp [Re.dA]at hx
 |cons k l ih =>
  intro f x hx;cases l with
  |nil =>
   simp only[Re.dA]at hx ⊢;exact h k (by simp) f x hx
  |cons k2 l2 =>
   have h1:=h k (by simp) (f+1);have h2:=ih (λy hy=>h y (by simp only[aeg]at hy ⊢;exact .inr hy)) (f+(k.code (f+1)).length+2);rw[Re.dA]at hx ⊢;generalize Re.dA (k2::l2) (f+(k.code (f+1)).length+2)=z at *;simp only[adA,adx]
   push_cast
   simp only[aeg,List.mem_append]at hx;rcases hx with rfl|hx|rfl|hx
   ·exact D8 (by omega)
   ·exact(h1 x hx).mono (by omega) (by omega)
   ·exact Kd (by omega)
   ·exact(h2 x hx).mono (by omega) (by omega)
theorem BY {top VW:Int} (ht:top<=VW):∀(l:List (Int×Int)) (p:Int),iV top p l=true->iV VW p l=true
 |[],_,_=>rfl
 |s::l,p,h=>by simp only[iV,adD,adC]at h ⊢;exact⟨by omega,BY ht l _ h.2⟩
theorem Hi {top:Int}:∀(l:List (Int×Int)) (p:Int),iV top p l=true->∀s∈l,s.2<=top
 |[],_,_,_,hs=>by cases hs
 |a::l,p,h,s,hs=>by
  simp only[iV,adD,adC]at h;rcases List.mem_cons.1 hs with rfl|hs
  ·omega
  ·exact Hi l _ h.2 s hs
theorem Q8 {top:Int} (KG:0<=ah) (x0:ah<=9) (II:top<=1114111) (hr:aK=true\/top<=255) (re:Re):re.whole ah top=true->re.every pZ=true->re.fw<=9000->∀f,∀x∈re.code f,qm f (f+(re.code f).length) ah aK x:=by
 induction re using Re.ind with
 |h re ih =>
 intro hw hs hz f x hx;obtain⟨hw1,Rf⟩:=(Re.aQ re).1 hw;obtain⟨eC,lP⟩:=(Re.aQ re).1 hs;obtain⟨OT,xV,Ig,hk0⟩:=eY.1 eC;obtain⟨⟨a1,a2,a3,a4⟩,b,c,d,e⟩:=eT.1 hw1;obtain⟨q1,q2,q3,q4,q5,q6,q7,q8,q9,SD⟩:=eW.1 (eU.1 OT).1;have hq:=(eU.1 OT).2;have hlen:=jY re hs hz f;have kS:¬gY re->∀k∈re.kids,∀f,∀x∈k.code f,qm f (f+(k.code f).length) ah aK x:=λhl k hk=>ih k hk (Rf k hk) (lP k hk) (by
  have:=(rS hs hz ⟨λh=>hl (.inr (.inl h)),λh=>hl (.inr (.inr h))⟩).2 k hk;omega)
 rw[Re.fe]at hx hlen ⊢;by_cases o1:re.op=1
 ·rw[ap o1]at hx ⊢;rw[ap o1]at b;rw[List.mem_singleton.1 hx];unfold gK at b;rw[adD]at b;have rm:=of_decide_eq_true b.1;refine⟨by simp [dk],.inr (.inl ⟨rfl,?_,?_⟩)⟩
  ·show wN re.set=0;unfold wN;rw[ap (BY II _ _ b.2),am (by omega)]
  ·show M4 aK re.set=true;unfold M4;rcases hr with rfl|hr
   ·rfl
   ·cases hg:re.set[re.set.length-1]? with
    |none=>simp
    |some s =>
     have:=Hi _ _ b.2 s (adw hg);simp only[Bool.or_eq_true,adC];exact .inr (by omega)
 rw[am o1]at hx hlen ⊢;by_cases nb:re.op=11
 ·rw[ap nb]at hx ⊢;rw[am (by omega),ap nb]at d;rw[List.mem_singleton.1 hx];exact⟨by simp [dk],by simp;omega⟩
 rw[am nb]at hx hlen ⊢;by_cases o2:re.op=2
 ·rw[ap o2]at hx ⊢;exact IJ (kS (by unfold gY;omega)) f x hx
 rw[am o2]at hx hlen ⊢;by_cases o3:re.op=3
 ·rw[ap o3]at hx ⊢;exact Jp (kS (by unfold gY;omega)) f x hx
 rw[am o3]at hx hlen ⊢;by_cases o5:re.op=5
 ·rw[ap o5]at hx ⊢;rw[ap (.inl o5)]at d;obtain⟨k,hk⟩:∃k,re.kids=[k]:=List.length_eq_one_iff.1 (Ig (.inr o5));have oG:=kS (by unfold gY;omega) k (by rw[hk];simp) (f+1);have e0:Re.oM re.kids (f+1)=k.code (f+1):=by rw[hk];rfl
  rw[e0]at hx ⊢;simp only[adA,adx,adF]
  push_cast
  simp only[aeg,List.mem_append,List.not_mem_nil,or_false]at hx;rcases hx with rfl|hx|rfl
  ·exact J7 (by omega)
  ·exact(oG x hx).mono (by omega) (by omega)
  ·exact J7 (by omega)
 rw[am o5]at hx hlen ⊢;by_cases o4:re.op=4
 ·rw[ap o4]at hx hlen ⊢;obtain⟨k,hk⟩:∃k,re.kids=[k]:=List.length_eq_one_iff.1 (Ig (.inl o4));have oG:=kS (by unfold gY;omega) k (by rw[hk];simp);have e0:(λi=>Re.oM re.kids i)=k.code:=oF hk;rw[e0]at hx hlen ⊢;rw[hlen];unfold tg at hx hlen;simp only at hx hlen;by_cases hm:re.mx=-1
  ·rw[ap hm]at hx hlen;simp only[adx,adA,adF]at hlen
   push_cast at hlen
   simp only[aeg,List.mem_append,List.not_mem_nil,or_false]at hx;rcases hx with hx|rfl|hx|rfl
   ·obtain⟨j,j1,j2,j3⟩:=uE _ _ hx;exact(oG j x j3).mono (by omega) (by omega)
   ·exact D8 (by omega)
   ·exact(oG _ x hx).mono (by omega) (by omega)
   ·exact Kd (by omega)
  ·rw[am hm]at hx hlen;simp only[adx]at hlen
   push_cast at hlen
   rcases List.mem_append.1 hx with hx|hx
   ·obtain⟨j,j1,j2,j3⟩:=uE _ _ hx;exact(oG j x j3).mono (by omega) (by omega)
   ·obtain⟨j,j1,j2,j3⟩:=xq _ _ hx;rcases j3 with j3|rfl
    ·exact(oG j x j3).mono (by omega) (by omega)
    ·exact D8 (by omega)
 rw[am o4]at hx;cases hx
theorem xt (p:iF) (hv:dR p=0) (hc:p.re.comp []=true) (hz:p.re.fw<=8000):gV (hU p)=0:=by
 obtain⟨v1,v2,v3,v4,v5⟩:=eL hv;have hC:=DU v4 p.re v5 (by omega);have hD:=Dh v4 p.re v5 (by omega) [] hc;have hl:=jY p.re hD (by omega) 0;have hr:=fo p.re hC;have hi:=Q8 (aK:=p.aK) v3 v4 (by unfold fi;split <;> omega) (by unfold fi;cases p.aK <;> simp) p.re v5 hD (by omega) 0;have hlen:((hU p).ins.length:Int)=p.re.fw+1:=by unfold hU;simp;omega
 unfold gV;rw[am (by omega),am (by show ¬((hU p).ins.length=0\/p.ah<0\/9<p.ah);omega),ap ?_,am ?_]
 ·have:pK (hU p)=0:=by unfold pK hU;simp [Ae]
  omega
 ·rw[adE];intro x hx;unfold iw;rcases List.mem_append.1 hx with hx|hx
  ·have h:=hi x hx;have ho:=h.op;rw[h.un,Bool.true_and];show mV (hU p).ins.length p.ah p.aK x=true;unfold mV qK;rw[hlen];rcases ho with o|⟨o,ho⟩|⟨o,ho⟩|⟨o,ho⟩|⟨o,ho⟩|⟨o,ho⟩
   ·rw[ap o]
   ·rw[am (by omega),ap o];simp [ho.1,ho.2]
   ·rw[am (by omega),am (by omega),ap o];simp;omega
   ·rw[am (by omega),am (by omega),am (by omega),ap o];simp;omega
   ·rw[am (by omega),am (by omega),am (by omega),am (by omega),ap o];simp;omega
   ·rw[am (by omega),am (by omega),am (by omega),am (by omega),am (by omega),ap o];simp;omega
  ·rw[List.mem_singleton.1 hx];rfl
theorem Im {p:iF}{t:List Int} (h:zT p t) (hc:p.re.comp []=true):(hU p).bW:=CE (xt p h.valid hc (by have:=h.fw;omega))
def jK.TQ (x:jK):rv:=⟨x.gZ,x.aE⟩
theorem G7 (g:cJ) (m:List rv):∀l:List rv,(ef g l).2=true->ef g (l++m)=ef g l
 |[],h=>by simp [ef]at h
 |x::l,h=>by
  rw[adr,ef,ef];rw[ef]at h;split
  ·rfl
  ·rename_i hc;rw[am hc]at h;rw[G7 g m l h]
theorem Cy (g:cJ) (x:rv):∀l:List rv,(ef g l).2=false->(ef g l).1=l/\ef g (l++[x])=(l++[x],decide ((bk g x.pc).op=0))
 |[],_=>by
  refine⟨rfl,?_⟩;simp only[adt,ef];split
  ·rename_i h;simp [h]
  ·rename_i h;simp [h]
 |y::l,h=>by
  rw[ef]at h;by_cases hc:(bk g y.pc).op=0
  ·rw[ap hc]at h;cases h
  ·rw[am hc]at h;obtain⟨h1,h2⟩:=Cy g x l h;refine⟨by rw[ef,am hc,h1],?_⟩;rw[adr,ef,am hc,h2]
theorem oR (g:cJ) (t:List Int) (at_:Int):∀(k:Nat) (pc:Int) (aE:List Int) (r:zA),∃m,(iE g t at_ k pc aE r).jg=r.jg++m
 |0,_,_,r=>⟨[],by simp [iE]⟩
 |k+1,pc,aE,r=>by
  rw[iE];split
  ·exact⟨[],by simp⟩
  simp only;split
  ·obtain⟨m1,h1⟩:=oR g t at_ k (bk g pc).x aE ⟨r.added.set pc.toNat true,r.jg⟩;obtain⟨m2,h2⟩:=oR g t at_ k (bk g pc).y aE (iE g t at_ k (bk g pc).x aE ⟨r.added.set pc.toNat true,r.jg⟩);exact⟨m1++m2,by rw[h2,h1,adX]⟩
  split
  ·exact oR g t at_ k _ _ ⟨r.added.set pc.toNat true,r.jg⟩
  split
  ·exact oR g t at_ k _ _ ⟨r.added.set pc.toNat true,r.jg⟩
  split
  ·split
   ·exact oR g t at_ k _ _ ⟨r.added.set pc.toNat true,r.jg⟩
   ·exact⟨[],by simp⟩
  ·exact⟨_,rfl⟩
structure y8 (g:cJ) (at_ cq:Int) (st:eG) (r:zA):Prop where
 added:r.added.length=g.ins.length
 marks:st.closed=false->∀i,i<g.ins.length->(st.marks.getD i 0=at_+1 ↔ r.added.getD i true=true)
 list:st.list.map jK.TQ=(ef g r.jg).1
 done:st.closed=(ef g r.jg).2
 from_:∀x∈st.list,x.from_=cq
 le:∀m∈st.marks,m<=at_+1
theorem pE (g:cJ) (hg:g.bW) (t:List Int) (at_ cq:Int):∀(k:Nat) (pc:Int) (aE:List Int) (st:eG) (r:zA),st.ok g->y8 g at_ cq st r->0<=pc->pc<g.ins.length->y8 g at_ cq (gW g t at_ cq k pc aE st) (iE g t at_ k pc aE r)
 |0,_,_,st,r,_,h,_,_=>by simpa [gW,iE]using h
 |k+1,pc,aE,st,r,jB,h,h0,h1=>by
  by_cases hc:st.closed=true
  ·rw[gW,ap (.inl hc)];obtain⟨m,hm⟩:=oR g t at_ (k+1) pc aE r;have QS:ef g (iE g t at_ (k+1) pc aE r).jg=ef g r.jg:=by rw[hm];exact G7 g m _ (by rw[<- h.done];exact hc)
   exact⟨by rw[(jj g t at_ (k+1) pc aE r).1];exact h.added,λcZ=>(by rw[hc]at cZ;cases cZ),by rw[QS];exact h.list,by rw[QS];exact h.done,h.from_,h.le⟩
  have Zq:st.closed=false:=by simpa using hc
  have P7:=h.marks Zq pc.toNat (by omega);by_cases hm:st.marks.getD pc.toNat 0=at_+1
  ·rw[gW,iE,ap (.inr hm),ap (P7.1 hm)];exact h
  rw[gW,iE,am (λhh=>hh.elim hc hm),am (λhh=>hm (P7.2 hh))];have hx:=fE h0 h1;have hs:=hg.split pc.toNat _ hx;have hj:=hg.jump pc.toNat _ hx;have hn:=hg.next pc.toNat _ hx;have ho:=hg.ops _ (adw hx);have zd:=jB.JF pc (at_+1);have hlen:=jB.len;have hS:y8 g at_ cq (st.mark pc (at_+1)) ⟨r.added.set pc.toNat true,r.jg⟩:=by
   refine⟨by simpa using h.added,λ_ i hi=>?_,h.list,h.done,h.from_,λm P2=>?_⟩
   ·have ha:=h.added;have SJ:=h.marks Zq i hi;show (st.marks.set pc.toNat (at_+1)).getD i 0=at_+1 ↔ (r.added.set pc.toNat true).getD i true=true;simp only[List.getD_eq_getElem?_getD,List.getElem?_set]at SJ ⊢;by_cases he:pc.toNat=i
    ·subst he;simp [show pc.toNat<st.marks.length by omega,show pc.toNat<r.added.length by omega]
    ·simpa [he]using SJ
   ·rcases List.mem_or_eq_of_mem_set P2 with P2|rfl
    ·exact h.le m P2
    ·exact ady _
  simp only;have Wn:(st.mark pc (at_+1)).closed=false:=Zq;generalize st.mark pc (at_+1)=c8 at *;have tk:∀c:Bool,c=decide ((bk g pc).op=0)->y8 g at_ cq (c8.push ⟨pc,cq,aE⟩ c) ⟨r.added.set pc.toNat true,r.jg++[⟨pc,aE⟩]⟩:=by
   rintro c rfl;obtain⟨q1,q2⟩:=Cy g ⟨pc,aE⟩ r.jg (by rw[<- hS.done];exact Wn);refine⟨hS.added,λ_=>hS.marks Wn,?_,?_,?_,hS.le⟩
   ·rw[eG.wo zd.n,List.map_append,hS.list,q1,q2];rfl
   ·rw[q2];rfl
   ·rw[eG.wo zd.n];intro x hx;rcases List.mem_append.1 hx with hx|hx
    ·exact hS.from_ x hx
    ·rw[List.mem_singleton.1 hx]
  by_cases o0:(bk g pc).op=0
  ·rw[ap (.inl o0),am (by omega),am (by omega),am (by omega),am (by omega)];exact tk _ rfl
  by_cases o1:(bk g pc).op=1
  ·rw[ap (.inr o1),am (by omega),am (by omega),am (by omega),am (by omega)];exact tk _ rfl
  rw[am (λhh=>hh.elim o0 o1)];by_cases o2:(bk g pc).op=2
  ·rw[ap o2,ap o2];have:=hs o2;have k1:=pE g hg t at_ cq k (bk g pc).x aE c8 ⟨r.added.set pc.toNat true,r.jg⟩ zd hS (by omega) (by omega);have k2:=(ji g t at_ cq k (bk g pc).x aE c8 hg zd (by omega) (by omega)).1;exact pE g hg t at_ cq k (bk g pc).y aE _ _ k2 k1 (by omega) (by omega)
  rw[am o2,am o2];by_cases o3:(bk g pc).op=3
  ·rw[ap o3,ap o3];have:=hj o3;exact pE g hg t at_ cq k _ _ _ _ zd hS (by omega) (by omega)
  rw[am o3,am o3];by_cases o4:(bk g pc).op=4
  ·rw[ap o4,ap o4];have:=hn (.inr (by omega));exact pE g hg t at_ cq k _ _ _ _ zd hS (by omega) (by omega)
  rw[am o4,am o4,ap (by omega:(bk g pc).op=5)];split
  ·have:=hn (.inr (by omega));exact pE g hg t at_ cq k _ _ _ _ zd hS (by omega) (by omega)
  ·exact hS
theorem y0 (g:cJ) (hg:g.bW) (t:List Int) (at_ cq:Int):∀(l:List jK) (st:eG) (r:zA),(∀x∈l,x.ok g)->(∀x∈l,x.from_=cq)->st.ok g->y8 g (at_+1) cq st r->y8 g (at_+1) cq (tH g t at_ l st) ((l.map jK.TQ).foldl (ly g t at_) r)
 |[],_,_,_,_,_,h=>h
 |x::l,st,r,hl,hf,jB,h=>by
  have hx:=hl x (by simp);have hfx:=hf x (by simp);show y8 g (at_+1) cq (tH g t at_ l (mX g t at_ st x)) ((l.map jK.TQ).foldl (ly g t at_) (ly g t at_ r x.TQ));by_cases hc:DW g t at_ x
  ·have hn:=hg.next x.gZ.toNat _ (fE hx.p0 hx.p1) (.inl hc.1);have hp:=hx.p0;have e1:mX g t at_ st x=gW g t (at_+1) cq (mu g) (x.gZ+1) x.aE st:=by unfold mX;rw[ap hc,hfx]
   have e2:ly g t at_ r x.TQ=iE g t (at_+1) (mu g) (x.gZ+1) x.aE r:=ap hc;rw[e1,e2];exact y0 g hg t at_ cq l _ _ (λy hy=>hl y (by simp [hy])) (λy hy=>hf y (by simp [hy])) (ji g t (at_+1) cq (mu g) (x.gZ+1) x.aE st hg jB (by omega) (by omega)).1
    (pE g hg t (at_+1) cq (mu g) (x.gZ+1) x.aE st r jB h (by omega) (by omega))
  ·have e1:mX g t at_ st x=st:=am hc;have e2:ly g t at_ r x.TQ=r:=am hc;rw[e1,e2];exact y0 g hg t at_ cq l _ _ (λy hy=>hl y (by simp [hy])) (λy hy=>hf y (by simp [hy])) jB h
theorem Fw (g:cJ) (at_ cq:Int) (marks:List Int) (arr:List jK) (gen:Nat) (hm:marks.length=g.ins.length) (hle:∀m∈marks,m<=at_):y8 g at_ cq ⟨marks,false,arr,0,gen⟩ (fY g):=by
 refine⟨by simp [fY],λ_ i hi=>?_,by simp [eG.list,fY,ef],by simp [fY,ef],λx hx=>by simp [eG.list]at hx,λm P2=>by have:=hle m P2;show m<=at_+1;omega⟩;have h1:marks.getD i 0≠at_+1:=by have:marks[i]?=some (marks.getD i 0):=uU (by omega);have:=hle _ (adw this);omega
 have h2:(fY g).added.getD i true=false:=by simp [fY,List.getD_eq_getElem?_getD,List.getElem?_replicate,hi]
 rw[h2];exact⟨λh=>(h1 h).elim,λh=>by cases h⟩
theorem BI (g:cJ):∀l:List rv,(ef g l).2=true->∃x,(ef g l).1.getLast?=some x/\(bk g x.pc).op=0
 |[],h=>by simp [ef]at h
 |x::l,h=>by
  rw[ef]at h ⊢;by_cases hc:(bk g x.pc).op=0
  ·rw[ap hc];exact⟨x,rfl,hc⟩
  ·rw[am hc]at h ⊢;obtain⟨y,h1,h2⟩:=BI g l h;exact⟨y,by simp only;rw[List.getLast?_cons,h1];rfl,h2⟩
theorem JB (g:cJ):∀l:List rv,(ef g l).2=false->∀x∈(ef g l).1,(bk g x.pc).op≠0
 |[],_=>by simp [ef]
 |x::l,h=>by
  rw[ef]at h ⊢;by_cases hc:(bk g x.pc).op=0
  ·rw[ap hc]at h;cases h
  ·rw[am hc]at h ⊢;intro y hy;rcases List.mem_cons.1 hy with rfl|hy
   ·exact hc
   ·exact JB g l h y hy
theorem Nv (g:cJ) (at_ cq:Int) (st:eG) (l:xw) (σ:zC) (hl:l.at_=at_) (h:y8 g at_ cq st l.st):(fF g σ at_ st.list).2=G2 g cq l σ.2:=by
 have OR:=h.list;unfold fF G2 mQ;simp only[<- List.getLast?_eq_getElem?];cases hc:(ef g l.st.jg).2 with
 |true =>
  obtain⟨y,h1,h2⟩:=BI g l.st.jg hc;rw[<- OR,List.getLast?_map]at h1;obtain⟨x,hx,rfl⟩:=Option.map_eq_some_iff.1 h1;have hxf:=h.from_ x (List.mem_of_getLast? hx);rw[<- OR,List.getLast?_map,hx];simp only[if_true,ad9];have W5:(bk g x.gZ).op=0:=h2;rw[ap W5,hxf,hl];rfl
 |false =>
  have ov:=JB g l.st.jg hc;rw[<- OR]at ov;simp only[adq,if_false];cases hx:st.list.getLast? with
  |none=>rfl
  |some x =>
   have:(bk g x.gZ).op≠0:=ov x.TQ (List.mem_map.2 ⟨x,List.mem_of_getLast? hx,rfl⟩);simp only;rw[am this]
theorem Fq (S:qx zC) (g:cJ) (hg:g.bW) (t:List Int) (hF:S.F=λσ i l=>fF g σ i l) (hB:S.B=λ_ _ _=>true) (MP:Int):∀(k:Nat) (a:Int) (fd:Bool) (st:eG) (sp:List jK×Nat) (σ:zC) (l:xw),MP<=a->l.at_=a->(kT g t a MP fd st).inv g a->y8 g a MP (kT g t a MP fd st) l.st ->
  (qo S g t MP k a fd st sp σ).2.2=LJ g t MP k l σ.2
 |0,_,_,_,_,_,_,_,_,_,_=>rfl
 |k+1,a,fd,st,sp,σ,l,h0,hl,hi,hs=>by
  rw[qo,LJ];generalize kT g t a MP fd st=c8 at *;have R9:=Nv g a MP c8 l σ hl hs;have hσ:S.F σ a c8.list=fF g σ a c8.list:=by rw[hF]
  have hb:S.B σ a c8.list=true:=by rw[hB]
  rw[hσ,hb];have Wi:c8.list=[] ↔ (ef g l.st.jg).1=[]:=by rw[<- hs.list,List.map_eq_nil_iff]
  by_cases hc:(ef g l.st.jg).1=[]\/(t.length:Int)<=l.at_
  ·rw[ap hc,ap ?_]
   ·exact R9
   ·rcases hc with hc|hc
    ·exact .inr (.inl ⟨Wi.2 hc,.inr h0⟩)
    ·exact .inr (.inr (by omega))
  ·rw[am hc,am ?_]
   ·have xA:∀Z6 st',kT g t (a+1) MP Z6 st'=st':=λZ6 st'=>am (λh=>by have:=h.1;omega);have JP:(⟨c8.marks,false,sp.1,0,sp.2⟩:eG).inv g (a+1):=by have oa:=hi.ok.len;refine⟨⟨oa,Nat.zero_le _⟩,?_,λx hx=>by simp [eG.list]at hx⟩;have:=wY (a+1) c8.marks;show 0+GO (a+1) c8.marks<=_;omega
    have hfs:=y0 g hg t a MP c8.list ⟨c8.marks,false,sp.1,0,sp.2⟩ (fY g) hi.th hs.from_ JP.ok (Fw g (a+1) MP c8.marks sp.1 sp.2 hi.ok.len hs.le);have A4:=uq g hg t a c8.list _ hi.th JP;rw[<- R9];refine Fq S g hg t hF hB MP k (a+1) _ _ _ _ (J0 g t l) (by omega) (by rw[<- hl];rfl) (by rw[xA];exact A4) ?_;rw[xA];unfold J0 Cl;rw[<- hs.list,hl];exact hfs
   ·intro h;rcases h with h|⟨h,_⟩|h
    ·cases h
    ·exact hc (.inl (Wi.1 h))
    ·exact hc (.inr (by omega))
theorem Ll (g:cJ) (hg:g.bW) (t:List Int) (at_:Int) (ha0:0<=at_):(yW g t at_ at_).2.2=Dz g t at_:=by
 have hlen:=hg.IQ;have jB:(cQ g).ok g:=⟨by simp [cQ],adB _⟩
 have hinv:(cQ g).inv g at_:=by
  refine⟨jB,?_,λx hx=>by simp [eG.list,cQ]at hx⟩;have:=wY at_ (cQ g).marks;have h':(cQ g).marks.length=g.ins.length:=by simp [cQ]
  show 0+GO at_ (cQ g).marks<=_;omega
 have aU:kT g t at_ at_ false (cQ g)=gW g t at_ at_ (mu g) 0 (jN g) (cQ g):=ap ⟨ady _,rfl⟩;have h0:y8 g at_ at_ (cQ g) (fY g):=Fw g at_ at_ _ [] 0 (by simp) (λm hm=>by rw[(List.mem_replicate.1 hm).2];exact ha0);refine Fq (je g) g hg t rfl rfl at_ (t.length+1) at_ false (cQ g) ([],0) (false,none) (zx g t at_) (ady _) rfl ?_ ?_
 ·rw[aU];exact sT g hg t at_ at_ _ _ _ _ hinv (ady _) (by omega) (by simp [jN])
 ·rw[aU];exact pE g hg t at_ at_ (mu g) 0 (jN g) (cQ g) (fY g) jB h0 (ady _) (by omega)
end Go.Proofs.Ytphfjhaffbfpfaa
