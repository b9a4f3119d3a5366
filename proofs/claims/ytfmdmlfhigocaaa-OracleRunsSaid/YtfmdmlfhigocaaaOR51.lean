/- A part of the proof (O65 O64). -/
import Derived.Test.YtfmdmlfhigocaaaOR42
import Derived.Test.YtfmdmlfhigocaaaOR48
import Derived.Test.YtfmdmlfhigocaaaOR49
import Derived.Test.YtfmdmlfhigocaaaOR50
set_option linter.unusedSimpArgs false
set_option linter.unusedVariables false
set_option maxRecDepth 100000
set_option maxHeartbeats 80000000
namespace Go.Proofs.Ytfmdmlfhigocaaa
open Go.VL
variable{l:List au}{C:List au}{pc:Nat}
def oc (C:List au) (pc:Nat) (l:List au):Prop:=∃A B,C=A++(l++B)/\pc=A.length
theorem oc.app{l':List au} (h:oc C pc (l++l')):oc C pc l/\oc C (pc+l.length) l':=by obtain⟨A,B,h1,h2⟩:=h;exact⟨⟨A,l'++B,by rw[h1,ajq],h2⟩,⟨A++l,B,by rw[h1];simp,by rw[ai6,h2]⟩⟩
theorem oc.cons{x:au} (h:oc C pc (x::l)):bz C pc=x/\oc C (pc+1) l:=by obtain⟨A,B,h1,h2⟩:=h;refine⟨?_,⟨A++[x],B,by rw[h1];simp,by rw[ai6,h2];rfl⟩⟩;unfold bz;rw[h1,h2,aja,ajh (ajc _),akp];rfl
inductive Fq (C:List au):Nat->Nat->Prop
 |refl {pc:Nat}:Fq C pc pc
 |step {pc q:Nat} (h:(bz C pc).op=3) (k:Fq C (bz C pc).x.toNat q):Fq C pc q
theorem Fq.way {t:List Int}{Bs:List (List Bool)}{fin:Nat->Bool}{q a n:Nat}{aL:List Int}{r:Option (Nat×List Int)} (h:Fq C pc q) (w:de t Bs C fin q a aL n r):∃m,de t Bs C fin pc a aL m r:=by
 induction h with
 |refl=>exact⟨n,w⟩
 |step h k ih =>
  obtain⟨m,w'⟩:=ih w;exact⟨_,.jmp h w'⟩
def yE (re:Re):Bool:=!re.iv||re.kids.all λk=>k.every λr=>decide (r.op≠5)
def RG (re:Re):Bool:=H7 re&&(uL re&&yE re)
theorem P0 {re:Re}:RG re=true ↔ H7 re=true/\uL re=true/\yE re=true:=by unfold RG;rw[aji,aji]
structure FrN (re:Re):Prop where
 one:re.op=4\/re.op=5\/re.op=7\/re.op=8->∃x,re.kids=[x]
 two:re.op=3->2<=re.kids.length
 mn0:0<=re.mn
 mx0:re.op=4->re.mx=-1\/(1<=re.mx/\re.mn<=re.mx)
 cap:re.op=5->1<=re.n
 ops:re.op=0\/re.op=1\/re.op=2\/re.op=3\/re.op=4\/re.op=5\/re.op=7\/re.op=8\/re.op=11
 rep:re.op=4->re.mode≠2/\Re.qa re.kids=false
 nok:re.op=0->re.kids=[]
 Yh:re.op=7\/re.op=8->∀k∈re.kids,k.every (λr=>decide (r.op≠5))=true
 ass:re.op=11->0<=re.n/\re.n<=5
theorem KY (l:List Re):jF l=Re.qa l:=by
 cases l with
 |nil=>rfl
 |cons x l=>rfl
theorem rC {re:Re} (h:re.every RG=true):FrN re/\∀k∈re.kids,k.every RG=true:=by
 obtain⟨h1,h2⟩:=(Re.av re).1 h;obtain⟨a,b,c⟩:=P0.1 h1;obtain⟨a1,a2⟩:=zd.1 a;obtain⟨q1,q2,q3,q4,q5,q6,q7,q8,q9,ji,jh,nS,Ao,q14,q15⟩:=iO.1 a1;obtain⟨b1,b2,b3,b4⟩:=of_decide_eq_true b;refine⟨⟨λo=>List.length_eq_one_iff.1 (q1 o),q2,q4,q8,jh,ae,λo=>?_,λo=>a2 (.inl o),λo=>?_,λo=>⟨q9,nS o⟩⟩,h2⟩
 ·obtain⟨c1,c2⟩:=b4 o;exact⟨c1,by rw[<- KY];exact c2⟩
 ·unfold yE at c;have hl:re.iv=true:=bi o;rw[hl]at c;simpa using c
def ss (re:Re) (b k:Nat):Nat:=b+min k re.mn.toNat*Re.cu re.kids+(if re.mx=-1 then 0 else (k-re.mn.toNat)*(Re.cu re.kids+1))
structure jM (C:List au) (re:Re) (kk b:Nat) (k:Int) (pc:Nat):Prop where
 hs:oc C b (re.xN kk b)
 hf:re.every RG=true
 ho:re.op=4
 k0:0<=k
 k1:re.mx=-1\/k<=re.mx
 hp:pc=ss re b k.toNat
theorem Kr {C:List au}{c:Nat->List au}{z:Nat} (hc:∀f,(c f).length=z) {f:Nat}:∀(m:Nat),oc C f (wR c m f)->∀j:Nat,j<m->oc C (f+j*z) (c (f+j*z))
 |0,_,j,hj=>ae
 |m+1,h,j,hj=>by
  rw[wR]at h;obtain⟨h1,h2⟩:=h.app;by_cases e:j<m
  ·exact Kr hc m h1 j e
  ·have:j=m:=by omega
   subst this;rw[uW hc]at h2;exact h2
theorem HH {C:List au}{c:Nat->List au}{z:Nat} (hc:∀f,(c f).length=z) {f fin:Nat}{mode:Int}:∀(m:Nat),oc C f (rl c mode fin m f)->∀j:Nat,j<m->oc C (f+j*(z+1)) (mr mode (f+j*(z+1)+1) fin::c (f+j*(z+1)+1))
 |0,_,j,hj=>ae
 |m+1,h,j,hj=>by
  rw[rl]at h;obtain⟨h1,h2⟩:=h.app;by_cases e:j<m
  ·exact HH hc m h1 j e
  ·have:j=m:=by omega
   subst this;rw[A1 hc]at h2;exact h2
section
variable {C:List au}{re aP:Re}{kk b pc:Nat}{k:Int}
theorem Mo (hk:re.kids=[aP]) (f:Nat):Re.tI re.kids kk f=aP.xN kk f:=by rw[hk,Re.tI,Re.tI,List.append_nil]
theorem kP (hk:re.kids=[aP]):Re.cu re.kids=aP.dc:=by rw[hk,Re.cu,Re.cu,aj5]
theorem I3 (hk:re.kids=[aP]) (ho:re.op=4):re.dc=if re.mx=-1 then re.mn.toNat*aP.dc+aP.dc+2 else re.mn.toNat*aP.dc+(re.mx-re.mn).toNat*(aP.dc+1):=by rw[Re.gj,nK,bd,bd,bd,bd,be ho,kP hk]
theorem jM.code (h:jM C re kk b k pc) (hk:re.kids=[aP]):oc C b (Bv (λf=>aP.xN kk f) re.mn re.mx re.mode aP.dc b):=by have hs:=h.hs;have ho:=h.ho;rw[Re.lX,bd,bd,bd,bd,bd,be ho,kP hk]at hs;have e:(λf=>Re.tI re.kids kk f)=λf=>aP.xN kk f:=funext λf=>Mo hk f;rw[e]at hs;exact hs
theorem jM.less (h:jM C re kk b k pc) (hk:re.kids=[aP]) (aB:k<re.mn):oc C pc (aP.xN kk pc)/\jM C re kk b (k+1) (pc+aP.dc):=by
 have hN:=(rC h.hf).1;have hc:=h.code hk;have hk0:=h.k0;have hp:=h.hp;have SN:=hN.mx0 h.ho;unfold Bv at hc;simp only at hc;have ki:pc=b+k.toNat*aP.dc:=by rw[hp,ss,kP hk,Nat.min_eq_left ae,show k.toNat-re.mn.toNat=0 by omega,Nat.zero_mul];split <;> omega
 have h1:=Kr (λf=>aP.mq kk f) re.mn.toNat hc.app.1 k.toNat ae;rw[<- ki]at h1;refine⟨h1,h.hs,h.hf,h.ho,ae,ae,?_⟩;have e1:(k+1).toNat=k.toNat+1:=ae;rw[ss,kP hk,Nat.min_eq_left ae,e1,show k.toNat+1-re.mn.toNat=0 by omega,Nat.zero_mul,Nat.succ_mul,ki];split <;> omega
theorem jM.loop (h:jM C re kk b k pc) (hk:re.kids=[aP]) (aB:¬k<re.mn) (hx:re.mx=-1):bz C pc=mr re.mode (pc+1) (b+re.dc)/\oc C (pc+1) (aP.xN kk (pc+1))/\bz C (pc+1+aP.dc)=ku pc/\jM C re kk b (k+1) pc:=by
 have hN:=(rC h.hf).1;have hc:=h.code hk;have hk0:=h.k0;have Dm:=hN.mn0;have hp:=h.hp;have hz:=I3 hk h.ho;rw[be hx]at hz;have ki:pc=b+re.mn.toNat*aP.dc:=by rw[hp,ss,kP hk,Nat.min_eq_right ae,be hx,aj5]
 unfold Bv at hc;simp only at hc;rw[be hx]at hc;have h1:=hc.app.2;rw[uW (λf=>aP.mq kk f),<- ki]at h1;obtain⟨h2,h3⟩:=h1.cons;obtain⟨h4,h5⟩:=h3.app;rw[aP.mq]at h5;refine⟨?_,h4,h5.cons.1,h.hs,h.hf,h.ho,ae,.inl hx,?_⟩
 ·rw[h2,hz,ki,ajI,ajI,ajI,ajI]
 ·have e1:(k+1).toNat=k.toNat+1:=by omega
  rw[ss,kP hk,Nat.min_eq_right ae,be hx,aj5,ki]
theorem jM.count (h:jM C re kk b k pc) (hk:re.kids=[aP]) (aB:¬k<re.mn) (hx:re.mx≠-1) (hlx:k<re.mx):bz C pc=mr re.mode (pc+1) (b+re.dc)/\oc C (pc+1) (aP.xN kk (pc+1))/\jM C re kk b (k+1) (pc+1+aP.dc):=by
 have hN:=(rC h.hf).1;have hc:=h.code hk;have hk0:=h.k0;have Dm:=hN.mn0;have hp:=h.hp;have hz:=I3 hk h.ho;rw[ap hx]at hz;have ki:pc=b+re.mn.toNat*aP.dc+(k-re.mn).toNat*(aP.dc+1):=by rw[hp,ss,kP hk,Nat.min_eq_right ae,ap hx,show k.toNat-re.mn.toNat=(k-re.mn).toNat by omega]
 unfold Bv at hc;simp only at hc;rw[ap hx]at hc;have h1:=hc.app.2;rw[uW (λf=>aP.mq kk f)]at h1;have h2:=HH (λf=>aP.mq kk f) (re.mx-re.mn).toNat h1 (k-re.mn).toNat ae;rw[<- ki]at h2;obtain⟨h3,h4⟩:=h2.cons;refine⟨by rw[h3,hz,ajI b],h4,h.hs,h.hf,h.ho,ae,.inr ae,?_⟩;have e1:(k+1).toNat-re.mn.toNat=(k-re.mn).toNat+1:=ae;rw[ss,kP hk,Nat.min_eq_right ae,ap hx,e1,Nat.succ_mul,ki];omega
theorem jM.last (h:jM C re kk b k pc) (hk:re.kids=[aP]) (aB:¬k<re.mn) (hx:¬(re.mx=-1\/k<re.mx)):pc=b+re.dc:=by have hk0:=h.k0;have AX:=h.k1;have Dm:=(rC h.hf).1.mn0;have hz:=I3 hk h.ho;rw[ap (λe=>hx (.inl e))]at hz;rw[h.hp,ss,kP hk,Nat.min_eq_right ae,ap (λe=>hx (.inl e)),hz,show k.toNat-re.mn.toNat=(re.mx-re.mn).toNat by omega,ajI]
end
variable{k:Nat}{Bs:List (List Bool)}{re:Re}{t:List Int}
def IA (t:List Int) (Bs:List (List Bool)) (re:Re) (k:Nat):Prop:=∀p∈re.bH k,Bs.getD p.2 []=eS t Bs p.1 p.2/\∃x,p.1.kids=[x]/\fw t Bs (x.emit (p.2+1) []++[bW])
def NA (t:List Int) (Bs:List (List Bool)) (l:List Re) (k:Nat):Prop:=∀p∈Re.kJ l k,Bs.getD p.2 []=eS t Bs p.1 p.2/\∃x,p.1.kids=[x]/\fw t Bs (x.emit (p.2+1) []++[bW])
theorem IA.kids (h:IA t Bs re k) (ho:¬(re.op=7\/re.op=8)):NA t Bs re.kids k:=by intro p hp;refine h p ?_;rw[Re.DH,ap ho];exact hp
theorem IA.look{x:Re} (h:IA t Bs re k) (ho:re.op=7\/re.op=8) (hk:re.kids=[x]):Bs.getD k []=eS t Bs re k/\fw t Bs (x.emit (k+1) []++[bW])/\IA t Bs x (k+1):=by
 have e:re.bH k=(re,k)::Re.kJ re.kids (k+1):=by rw[Re.DH,be ho]
 obtain⟨h1,y,h2,h3⟩:=h (re,k) (by rw[e];simp);simp only at h1 h2 h3;rw[hk]at h2;have:x=y:=by simpa using h2
 subst this;refine⟨h1,h3,λp hp=>h p ?_⟩;rw[e,hk,Re.kJ,Re.kJ,List.append_nil];exact List.mem_cons_of_mem _ hp
theorem NA.cons{x:Re}{l:List Re} (h:NA t Bs (x::l) k):IA t Bs x k/\NA t Bs l (k+x.looks):=by unfold NA at h;rw[Re.kJ]at h;exact⟨λp hp=>h p (List.mem_append_left _ hp),λp hp=>h p (List.mem_append_right _ hp)⟩
theorem IA.one{x:Re} (h:IA t Bs re k) (ho:¬(re.op=7\/re.op=8)) (hk:re.kids=[x]):IA t Bs x k:=by have:=h.kids ho;rw[hk]at this;exact this.cons.1
inductive Ch (t:List Int) (Bs:List (List Bool)) (C:List au) (fin:Nat->Bool):Goal->Nat->Prop
 |nil {pc:Nat} (h:(bz C pc).op=0) (hf:∀a,fin a=true):Ch t Bs C fin .nil pc
 |here {k f:Int}{pc:Nat}{re:Re} (h:(bz C pc).op=0) (hf:∀a:Nat,fin a=decide ((a:Int)=f)):Ch t Bs C fin (.mk 4 re k f .nil) pc
 |tree {kind k f:Int}{pc q kk:Nat}{re:Re}{nx:Goal} (hk:kind=0) (hs:oc C pc (re.xN kk pc)) (hf:re.every RG=true) (hb:IA t Bs re kk) (hj:Fq C (pc+re.dc) q) (hn:Ch t Bs C fin nx q):Ch t Bs C fin (.mk kind re k f nx) pc
 |save {kind k f:Int}{pc q:Nat}{re:Re}{nx:Goal} (hk:kind=3) (ho:(bz C pc).op=4) (hx:(bz C pc).n=2*re.n-1) (hj:Fq C (pc+1) q) (hn:Ch t Bs C fin nx q):Ch t Bs C fin (.mk kind re k f nx) pc
 |rep {kind k f:Int}{pc b q kk:Nat}{re:Re}{nx:Goal} (hk:kind=1) (h:jM C re kk b k pc) (hb:IA t Bs re kk) (hj:Fq C (b+re.dc) q) (hn:Ch t Bs C fin nx q):Ch t Bs C fin (.mk kind re k f nx) pc
 |more {kind k f:Int}{pc b q kk:Nat}{re:Re}{nx:Goal} (hk:kind=2) (h:jM C re kk b (k+1) pc) (hb:IA t Bs re kk) (hj:Fq C (b+re.dc) q) (hn:Ch t Bs C fin nx q):Ch t Bs C fin (.mk kind re k f nx) pc
theorem Ch.push{C:List au}{fin:Nat->Bool}{nx:Goal}{q:Nat} (hn:Ch t Bs C fin nx q):∀{l:List Re}{pc kk:Nat},oc C pc (Re.tI l kk pc)->(∀k∈l,k.every RG=true)->NA t Bs l kk->Fq C (pc+Re.cu l) q ->
  ∃q',Fq C pc q'/\Ch t Bs C fin (iB l nx) q'
 |[],pc,kk,hs,hl,hb,hj=>⟨q,by simpa [Re.cu]using hj,hn⟩
 |k::l,pc,kk,hs,hl,hb,hj=>by rw[Re.tI]at hs;obtain⟨h1,h2⟩:=hs.app;rw[Re.mq]at h2;rw[Re.cu,<- ajI]at hj;obtain⟨b1,b2⟩:=hb.cons;obtain⟨q',a1,a2⟩:=Ch.push hn (l:=l) h2 (λx hx=>hl x (by simp [hx])) b2 hj;exact⟨pc,.refl,.tree rfl h1 (hl k aj) b1 a1 a2⟩
section
variable {t:List Int}{Bs:List (List Bool)}{C:List au}
variable{l':List iH}{p:Nat}{o:Nat×List Int}{l:List iH}{r:Option (Nat×List Int)}
inductive lO (t:List Int) (Bs:List (List Bool)) (C:List au) (p:Nat):List iH->Option (Nat×List Int)->Prop
 |nil:lO t Bs C p [] none
 |Qb {x l n r} (w:de t Bs C oE x.fJ p x.aL n (some r)):lO t Bs C p (x::l) (some r)
 |F8 {x l n r} (w:de t Bs C oE x.fJ p x.aL n none) (h:lO t Bs C p l r):lO t Bs C p (x::l) r
theorem lO.S5 (h:lO t Bs C p l (some o)):lO t Bs C p (l++l') (some o):=by
 generalize hr:some o=r at h;induction h with
 |nil=>cases hr
 |Qb w=>exact hr ▸ .Qb (hr ▸ w)
 |F8 w h ih=>exact .F8 w (ih hr)
theorem lO.Uq (h:lO t Bs C p l none) (h':lO t Bs C p l' r):lO t Bs C p (l++l') r:=by
 generalize hr:(none:Option (Nat×List Int))=r0 at h;induction h with
 |nil=>exact h'
 |Qb w=>cases hr
 |F8 w h ih=>exact .F8 w (ih hr)
theorem lO.pre (h:lO t Bs C p l (some o)) (hp:l <+: l'):lO t Bs C p l' (some o):=by obtain⟨r,rfl⟩:=hp;exact h.S5
theorem lO.split:∀{l l':List iH}{r:Option (Nat×List Int)},lO t Bs C p (l++l') r->(∃v,r=some v/\lO t Bs C p l (some v))\/(lO t Bs C p l none/\lO t Bs C p l' r)
 |[],_,_,h=>.inr ⟨.nil,h⟩
 |x::l,l',r,h=>by
  cases h with
  |Qb w=>exact .inl ⟨_,rfl,.Qb w⟩
  |F8 w h =>
   rcases lO.split h with ⟨v,e,h1⟩|⟨h1,h2⟩
   ·exact .inl ⟨v,e,.F8 w h1⟩
   ·exact .inr ⟨.F8 w h1,h2⟩
theorem Ff (p:Nat):∀(k n:Nat) (rg:List Int) (st:eG),st.rd <+: (fo t Bs C p k n rg st).rd
 |0,_,_,st=>List.prefix_refl _
 |k+1,n,rg,st=>by
  have ih:∀(n:Nat) (rg:List Int) (st:eG),st.rd <+: (fo t Bs C p k n rg st).rd:=λn rg st=>Ff p k n rg st;rw[fo];split
  ·exact List.prefix_refl _
  simp only;split
  ·exact List.prefix_append _ _
  split
  ·exact(ih _ rg ⟨st.ad.set n (p+1),st.cl,st.rd,st.gn⟩).trans (ih _ _ _)
  split
  ·exact ih _ rg ⟨st.ad.set n (p+1),st.cl,st.rd,st.gn⟩
  split
  ·exact ih _ _ ⟨st.ad.set n (p+1),st.cl,st.rd,st.gn⟩
  split
  ·split
   ·exact ih _ rg ⟨st.ad.set n (p+1),st.cl,st.rd,st.gn⟩
   ·exact List.prefix_refl _
  ·exact List.prefix_refl _
def nt (C:List au) (st:eG):Prop:=∃l,(∀x∈l,(bz C x.fJ).op=1)/\((st.cl=false/\st.rd=l)\/(st.cl=true/\∃d,(bz C d.fJ).op=0/\st.rd=l++[d]))
theorem xI (p:Nat):∀(k n:Nat) (rg:List Int) (st:eG),nt C st->nt C (fo t Bs C p k n rg st)
 |0,_,_,_,h=>h
 |k+1,n,rg,st,h=>by
  have ih:∀(n:Nat) (rg:List Int) (st:eG),nt C st->nt C (fo t Bs C p k n rg st):=λn rg st=>xI p k n rg st;rw[fo];split
  ·exact h
  ·rename_i hc;have iy:st.cl=false:=by
    cases hb:st.cl with
    |false=>rfl
    |true=>exact absurd (.inl hb) hc
   simp only;have h1:nt C ⟨st.ad.set n (p+1),st.cl,st.rd,st.gn⟩:=h;obtain⟨l,hl,hh⟩:=h;have Jt:st.rd=l:=by
    rcases hh with ⟨_,e⟩|⟨e,_⟩
    ·exact e
    ·rw[iy]at e;cases e
   split
   ·rename_i ho;by_cases o0:(bz C n).op=0
    ·exact⟨l,hl,.inr ⟨bi o0,⟨n,rg⟩,o0,by rw[Jt]⟩⟩
    ·have o1:(bz C n).op=1:=ho.resolve_left o0;refine⟨l++[⟨n,rg⟩],λx hx=>?_,.inl ⟨ce o0,by rw[Jt]⟩⟩;rcases List.mem_append.1 hx with hx|hx
     ·exact hl x hx
     ·rw[List.mem_singleton.1 hx];exact o1
   split
   ·exact ih _ _ _ (ih _ _ _ h1)
   split
   ·exact ih _ _ _ h1
   split
   ·exact ih _ _ _ h1
   split
   ·split
    ·exact ih _ _ _ h1
    ·exact h1
   ·exact h1
def MkF (p:Nat) (st:eG) (q:Nat):Prop:=st.ad[q]?=some (p+1)
def xM (t:List Int) (Bs:List (List Bool)) (C:List au) (p:Nat) (S:Nat->Prop) (st:eG):Prop:=∀q,q<C.length->MkF p st q->(∃n aL,de t Bs C oE q p aL n none)\/S q
theorem lZ (hg:fw t Bs C) {p c:Nat}:∀(k n:Nat) (rg:List Int) (st:eG) (S:Nat->Prop) (m:Nat) (r:Option (Nat×List Int)),de t Bs C oE n p rg m r->n<C.length->rg.length=c->st.ad.length=C.length->fy p st.ad<k->st.cl=false ->
  xM t Bs C p S st->(∀q,S q->∃m' jq r',m<m'/\de t Bs C oE q p jq m' r')->lO t Bs C p st.rd none->lO t Bs C p (fo t Bs C p k n rg st).rd r/\(r=none->xM t Bs C p S (fo t Bs C p k n rg st)/\(fo t Bs C p k n rg st).cl=false)
 |0,_,_,_,_,_,_,_,_,_,_,hu,_,_,_,_=>ae
 |k+1,n,rg,st,S,m,r,w,hn,H6,hd,hu,iy,hA,hS,ho=>by
  rw[fo];obtain⟨x,hx⟩:∃x,st.ad[n]?=some x:=bZ;by_cases hm:x=p+1
  ·rw[be (.inr (.inr (by rw[hx,hm])))];rcases hA n hn (by unfold MkF;rw[hx,hm]) with ⟨m',jq,w'⟩|hs
   ·have hr:r=none:=by cases r with
     |none=>rfl
     |some r=>have:=(w.det w').2.1;cases this
    exact⟨hr ▸ ho,λ_=>⟨hA,iy⟩⟩
   ·obtain⟨m',jq,r',aB,w'⟩:=hS n hs;have:=(w.det w').1;omega
  rw[ap (by rw[hx,iy];simp [hm])];have Xv:=rI hx hm;generalize ck:(⟨st.ad.set n (p+1),st.cl,st.rd,st.gn⟩:eG)=dM;have d1:dM.ad.length=C.length:=by rw[<- ck];simpa using hd
  have d3:fy p dM.ad<k:=by rw[<- ck];show fy p (st.ad.set n (p+1))<k;omega
  have d5:dM.rd=st.rd:=by rw[<- ck]
  have d6:dM.cl=false:=by rw[<- ck];exact iy
  have XQ:lO t Bs C p dM.rd none:=by rw[d5];exact ho
  have X3:xM t Bs C p (λq=>S q\/q=n) dM:=by
   intro q hq hk;by_cases e:q=n
   ·exact .inr (.inr e)
   ·rw[<- ck]at hk;have tz:MkF p st q:=by unfold MkF at hk ⊢;rw[<- ajy (Ne.symm e)];exact hk
    rcases hA q hq tz with h|h
    ·exact .inl h
    ·exact .inr (.inl h)
  have GH:∀F0:eG,r=none->xM t Bs C p (λq=>S q\/q=n) F0->xM t Bs C p S F0:=λF0 hr h2 q hq hk=>by
   rcases h2 q hq hk with h|h|h
   ·exact .inl h
   ·exact .inr h
   ·exact .inl (h ▸ ⟨m,rg,hr ▸ w⟩)
  have ZD:∀m',m'<m->∀q,(S q\/q=n)->∃m2 jq r',m'<m2/\de t Bs C oE q p jq m2 r':=λm' mD q hq=>by
   rcases hq with hq|rfl
   ·obtain⟨m2,jq,r',aB,w'⟩:=hS q hq;exact⟨m2,jq,r',ae,w'⟩
   ·exact⟨m,rg,r,mD,w⟩
  have Xs:lO t Bs C p (dM.rd++[⟨n,rg⟩]) r:=by
   refine XQ.Uq ?_;cases r with
   |none=>exact .F8 w .nil
   |some r=>exact .Qb w
  have An:=hg.ops n hn;simp only;by_cases o0:(bz C n).op=0
  ·rw[be (.inl o0)];obtain⟨_,hr⟩:=w.Ll o0;exact⟨Xs,λe=>by rw[hr]at e;cases e⟩
  by_cases o1:(bz C n).op=1
  ·rw[be (.inr o1)];exact⟨Xs,λe=>⟨GH dM e X3,ce o0⟩⟩
  rw[bd];by_cases o2:(bz C n).op=2
  ·rw[be o2];obtain⟨x0,x1,y0,y1⟩:=hg.split n hn o2;rcases w.inv2 o2 with ⟨m1,v,rfl,rfl,w1⟩|⟨m1,m2,rfl,w1,w2⟩
   ·have ih:=lZ hg k _ rg dM _ _ _ w1 ae H6 d1 d3 d6 X3 (ZD _ ae) XQ;exact⟨ih.1.pre (Ff p k _ _ _),λe=>by cases e⟩
   ·have ih:=lZ hg k _ rg dM _ _ _ w1 ae H6 d1 d3 d6 X3 (ZD _ ae) XQ;have MW:=nF t Bs C p c k (bz C n).x.toNat rg dM H6 d1;obtain⟨i1,i2⟩:=ih.2 rfl;have gy:=lZ hg k _ rg _ _ _ _ w2 ae H6 (MW.1.trans d1) (by have:=MW.2.1;omega) i2 i1 (ZD _ ae) ih.1;exact⟨gy.1,λe=>⟨GH _ e (gy.2 e).1,(gy.2 e).2⟩⟩
  rw[ap o2];by_cases o3:(bz C n).op=3
  ·rw[be o3];obtain⟨x0,x1⟩:=hg.jump n hn o3;obtain⟨m1,rfl,w1⟩:=w.VP o3;have ih:=lZ hg k _ rg dM _ _ _ w1 ae H6 d1 d3 d6 X3 (ZD _ ae) XQ;exact⟨ih.1,λe=>⟨GH _ e (ih.2 e).1,(ih.2 e).2⟩⟩
  rw[ap o3];by_cases o4:(bz C n).op=4
  ·rw[be o4];obtain⟨m1,rfl,w1⟩:=w.UY o4;have ih:=lZ hg k _ _ dM _ _ _ w1 (hg.next n hn (.inr (.inl o4))) (by simpa using H6) d1 d3 d6 X3 (ZD _ ae) XQ;exact⟨ih.1,λe=>⟨GH _ e (ih.2 e).1,(ih.2 e).2⟩⟩
  rw[ap o4];have o5:(bz C n).op=5:=ae;rw[be o5];rcases w.QJ o5 with ⟨h1,rfl,_⟩|⟨h1,m1,rfl,w1⟩
  ·rw[ap (by rw[h1];simp)];exact⟨XQ,λe=>⟨GH _ e X3,d6⟩⟩
  ·rw[be h1];have ih:=lZ hg k _ rg dM _ _ _ w1 (hg.next n hn (.inr (.inr o5))) H6 d1 d3 d6 X3 (ZD _ ae) XQ;exact⟨ih.1,λe=>⟨GH _ e (ih.2 e).1,(ih.2 e).2⟩⟩
theorem Gk (p:Nat):∀(l:List iH) (st:eG),st.rd <+: (fC t Bs C p l st).rd
 |[],st=>List.prefix_refl _
 |x::l,st=>by
  refine List.IsPrefix.trans ?_ (Gk p l (fP t Bs C p st x));unfold fP;split
  ·exact Ff (p+1) _ _ _ _
  ·exact List.prefix_refl _
theorem BI (p:Nat):∀(l:List iH) (st:eG),nt C st->nt C (fC t Bs C p l st)
 |[],st,h=>h
 |x::l,st,h=>by
  refine BI p l (fP t Bs C p st x) ?_;unfold fP;split
  ·exact xI (p+1) _ _ _ _ h
  ·exact h
theorem GM (p:Nat) (l:List Nat):fy p l<=l.length:=ajY
theorem rF (hg:fw t Bs C) {p c:Nat}:∀(l:List iH) (st:eG) (r:Option (Nat×List Int)),(∀x∈l,x.fJ<C.length/\x.aL.length=c/\(bz C x.fJ).op=1)->st.ad.length=C.length->st.cl=false->xM t Bs C (p+1) (λ_=>False) st ->
  lO t Bs C (p+1) st.rd none->lO t Bs C p l r->lO t Bs C (p+1) (fC t Bs C p l st).rd r
 |[],st,r,_,_,_,_,ho,h=>by cases h;exact ho
 |x::l,st,r,jA,hd,iy,hA,ho,h=>by
  obtain⟨x1,x2,x3⟩:=jA x aj;have Cm:∀y∈l,y.fJ<C.length/\y.aL.length=c/\(bz C y.fJ).op=1:=λy hy=>jA y (by simp [hy]);show lO t Bs C (p+1) (fC t Bs C p l (fP t Bs C p st x)).rd r;have hu:=GM (p+1) st.ad;have key:∀n o,de t Bs C oE x.fJ p x.aL n o->(fP t Bs C p st x=st/\o=none)\/(∃n',de t Bs C oE (x.fJ+1) (p+1) x.aL n' o/\fP t Bs C p st x=fo t Bs C (p+1) (C.length+1) (x.fJ+1) x.aL st):=by
   intro n o w;rcases w.inv1 x3 with ⟨h1,h2,_⟩|⟨h1,n',_,w'⟩
   ·exact .inl ⟨ap (λhh=>by rw[h1]at hh;cases hh.2),h2⟩
   ·exact .inr ⟨n',w',be ⟨x3,h1⟩⟩
  have hn:=hg.next _ x1 (.inl x3);cases h with
  |Qb w =>
   rcases key _ _ w with ⟨_,e⟩|⟨n',w',e⟩
   ·cases e
   ·rw[e];have:=lZ hg (C.length+1) _ _ st (λ_=>False) _ _ w' hn x2 hd ae iy hA (λq hq=>hq.elim) ho;exact this.1.pre (Gk p l _)
  |F8 w h =>
   rcases key _ _ w with ⟨e,_⟩|⟨n',w',e⟩
   ·rw[e];exact rF hg l st r Cm hd iy hA ho h
   ·rw[e];have a:=lZ hg (C.length+1) _ _ st (λ_=>False) _ _ w' hn x2 hd ae iy hA (λq hq=>hq.elim) ho;have MW:=nF t Bs C (p+1) c (C.length+1) (x.fJ+1) x.aL st x2 hd;obtain⟨a1,a2⟩:=a.2 rfl;exact rF hg l _ r Cm (MW.1.trans hd) a2 a1 a.1 h
theorem EK {p:Nat}:∀(k n:Nat) (rg:List Int) (st:eG),(∀m∈st.ad,m<=p+1)->∀m∈(fo t Bs C p k n rg st).ad,m<=p+1
 |0,_,_,_,h=>h
 |k+1,n,rg,st,h=>by
  have ih:∀(n:Nat) (rg:List Int) (st:eG),(∀m∈st.ad,m<=p+1)->∀m∈(fo t Bs C p k n rg st).ad,m<=p+1:=λn rg st h=>EK k n rg st h;rw[fo];split
  ·exact h
  have h1:∀m∈st.ad.set n (p+1),m<=p+1:=λm hm=>by
   rcases aj4 hm with hm|rfl
   ·exact h m hm
   ·exact ajc _
  simp only;split
  ·exact h1
  split
  ·exact ih _ _ _ (ih _ _ _ h1)
  split
  ·exact ih _ _ _ h1
  split
  ·exact ih _ _ _ h1
  split
  ·split
   ·exact ih _ _ _ h1
   ·exact h1
  ·exact h1
theorem Hg {p:Nat}:∀(l:List iH) (st:eG),(∀m∈st.ad,m<=p+1+1)->∀m∈(fC t Bs C p l st).ad,m<=p+1+1
 |[],_,h=>h
 |x::l,st,h=>by
  refine Hg l (fP t Bs C p st x) ?_;unfold fP;split
  ·exact EK _ _ _ st h
  ·exact h
def Vc (b c:Nat) (v:Nat×List Int):kA:=⟨b,v.1,Ja c v.2⟩
theorem tj (hg:fw t Bs C) {b c:Nat}:∀(k p:Nat) (st:eG) (gb:Nat) (fO:Option kA) (r:Option (Nat×List Int)),nt C st->(∀x∈st.rd,x.fJ<C.length/\x.aL.length=2*c)->st.ad.length=C.length->(∀m∈st.ad,m<=p+1)->(t.length<p->st.rd=[])->t.length+2<=p+k ->
  lO t Bs C p st.rd r->(nZ t Bs C b c k p st gb fO).1=match r with|some v=>some (Vc b c v)|none=>fO
 |0,p,st,gb,fO,r,_,_,_,_,he,hk,ho=>by rw[he ae]at ho;cases ho;rfl
 |k+1,p,st,gb,fO,r,hsh,Xs,hd,hold,he,hk,ho=>by
  rw[nZ];by_cases Jt:st.rd=[]
  ·rw[be Jt];rw[Jt]at ho;cases ho;rfl
  rw[ap Jt];have ki:p<=t.length:=by
   by_cases h:t.length<p
   ·exact absurd (he h) Jt
   ·omega
  have hA:∀gb,xM t Bs C (p+1) (λ_=>False) ⟨st.ad,false,[],gb⟩:=λgb q hq hm=>by have:=hold _ (ai4 hm);omega
  have hlen:∀(l:List iH) (st:eG),(∀x∈l,x.aL.length=2*c)->st.ad.length=C.length->(∀x∈st.rd,x.fJ<C.length/\x.aL.length=2*c)->(fC t Bs C p l st).ad.length=C.length/\∀x∈(fC t Bs C p l st).rd,x.fJ<C.length/\x.aL.length=2*c:=by
   intro l;induction l with
   |nil=>intro st _ h h2;exact⟨h,h2⟩
   |cons x l ih =>
    intro st hl h h2;refine ih (fP t Bs C p st x) (λy hy=>hl y (by simp [hy])) ?_ ?_
    ·unfold fP;split
     ·exact(nF t Bs C (p+1) (2*c) _ _ _ st (hl x aj) h).1.trans h
     ·exact h
    ·unfold fP;split
     ·intro y hy;rcases(nF t Bs C (p+1) (2*c) _ _ _ st (hl x aj) h).2.2.2 y hy with h'|h'
      ·exact h2 y h'
      ·exact⟨h'.2.1,h'.1⟩
     ·exact h2
  obtain⟨n1,n2⟩:=hlen st.rd ⟨st.ad,false,[],gb⟩ (λx hx=>(Xs x hx).2) hd (λx hx=>by cases hx);have nsh:nt C (fC t Bs C p st.rd ⟨st.ad,false,[],gb⟩):=BI p _ _ ⟨[],λx hx=>(by cases hx),.inl ⟨rfl,rfl⟩⟩;have XB:=Hg (t:=t) (Bs:=Bs) (C:=C) (p:=p) st.rd ⟨st.ad,false,[],gb⟩ (λm hm=>by have:=hold m hm;omega);have YP:t.length<p+1->(fC t Bs C p st.rd ⟨st.ad,false,[],gb⟩).rd=[]:=λh=>by
   have UM:∀(l:List iH),(∀x∈l,x.fJ<C.length)->fC t Bs C p l ⟨st.ad,false,[],gb⟩=⟨st.ad,false,[],gb⟩:=by
    intro l;induction l with
    |nil=>intro _;rfl
    |cons x l ih =>
     intro hl;have e:fP t Bs C p ⟨st.ad,false,[],gb⟩ x=⟨st.ad,false,[],gb⟩:=ap (λhh=>by
      have:=CX hg (hl x aj) hh.1 hh.2;omega)
     show fC t Bs C p l (fP t Bs C p ⟨st.ad,false,[],gb⟩ x)=_;rw[e];exact ih λy hy=>hl y (by simp [hy])
   rw[UM st.rd λx hx=>(Xs x hx).1]
  obtain⟨l,hl,ov⟩:=hsh;rcases ov with ⟨iy,H6⟩|⟨iy,d,xf,H6⟩
  ·have hb:rb b p c st fO=fO:=by unfold rb;rw[ap (by rw[iy];simp)]
   rw[hb];have AP:=rF hg (p:=p) (c:=2*c) st.rd ⟨st.ad,false,[],gb⟩ r (λx hx=>⟨(Xs x hx).1,(Xs x hx).2,hl x (H6 ▸ hx)⟩) hd rfl (hA gb) .nil ho;exact tj hg k (p+1) _ _ _ r nsh n2 n1 XB YP ae AP
  ·have hb:rb b p c st fO=some ⟨b,p,Ja c d.aL⟩:=by unfold rb;rw[be iy,H6,List.getLastD_concat]
   rw[hb];rw[H6]at ho;have aaQ:∀{r},lO t Bs C p [d] r->r=some (p,d.aL):=by
    intro r h;cases h with
    |Qb w=>obtain⟨_,e⟩:=w.Ll xf;rw[e];rfl
    |F8 w h=>obtain⟨_,e⟩:=w.Ll xf;cases e
   have bK:fC t Bs C p st.rd ⟨st.ad,false,[],gb⟩=fC t Bs C p l ⟨st.ad,false,[],gb⟩:=by rw[H6,yc];exact ap (λhh=>ae)
   have VA:∀x∈l,x.fJ<C.length/\x.aL.length=2*c/\(bz C x.fJ).op=1:=λx hx=>by have:=Xs x (by rw[H6];exact List.mem_append_left _ hx);exact⟨this.1,this.2,hl x hx⟩
   rcases ho.split with ⟨v,rfl,h1⟩|⟨h1,h2⟩
   ·have AP:=rF hg (p:=p) (c:=2*c) l ⟨st.ad,false,[],gb⟩ (some v) VA hd rfl (hA gb) .nil h1;rw[<- bK]at AP;exact tj hg k (p+1) _ _ _ (some v) nsh n2 n1 XB YP ae AP
   ·have hr:=aaQ h2;subst hr;have AP:=rF hg (p:=p) (c:=2*c) l ⟨st.ad,false,[],gb⟩ none VA hd rfl (hA gb) .nil h1;rw[<- bK]at AP;exact tj hg k (p+1) _ _ _ none nsh n2 n1 XB YP ae AP
theorem J4 (hg:fw t Bs C) (h0:0<C.length) {c m:Nat} (hp:p<=t.length) (w:de t Bs C oE 0 p (gr c) m r):(gk t Bs C p c).1=r.map (Vc p c):=by
 have LU:(gr c).length=2*c:=by simp [gr]
 have hold:∀m∈List.replicate C.length 0,m<=p+1:=λm hm=>by rw[(List.mem_replicate.1 hm).2];omega
 have hu:=GM p (List.replicate C.length 0);rw[aj6]at hu;have a:=lZ hg (p:=p) (c:=2*c) (C.length+1) 0 (gr c) ⟨List.replicate C.length 0,false,[],0⟩ (λ_=>False) m r w h0 LU aj oG rfl (λq hq hm=>by
  have hm:(List.replicate C.length 0)[q]?=some (p+1):=hm;rw[akb,be hq]at hm;cases hm) (λq hq=>hq.elim) .nil
 have hsh:nt C (sU t Bs C p c):=xI p _ _ _ _ ⟨[],λx hx=>(by cases hx),.inl ⟨rfl,rfl⟩⟩;have MW:=nF t Bs C p (2*c) (C.length+1) 0 (gr c) ⟨List.replicate C.length 0,false,[],0⟩ LU aj;have UC:=EK (t:=t) (Bs:=Bs) (C:=C) (p:=p) (C.length+1) 0 (gr c) ⟨List.replicate C.length 0,false,[],0⟩ hold;unfold gk;rw[tj hg (t.length+2-p) p (sU t Bs C p c) 0 none r hsh (λx hx=>?_) (MW.1.trans aj) UC (λh=>ae) ae a.1]
 ·cases r <;> rfl
 ·rcases MW.2.2.2 x hx with h|h
  ·cases h
  ·exact⟨h.2.1,h.1⟩
end
end Go.Proofs.Ytfmdmlfhigocaaa
