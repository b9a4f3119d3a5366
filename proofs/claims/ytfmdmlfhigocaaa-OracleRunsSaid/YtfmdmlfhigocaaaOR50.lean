/- A part of the proof (O62 O63). -/
import Derived.Test.YtfmdmlfhigocaaaOR49
set_option linter.unusedSimpArgs false
set_option linter.unusedVariables false
set_option maxRecDepth 100000
set_option maxHeartbeats 80000000
namespace Go.Proofs.Ytfmdmlfhigocaaa
open Go.VL
inductive mK (t:List Int) (Bs:List (List Bool)) (C:List au):Nat->Nat->Nat->Nat->Prop
 |rd {pc a:Nat} (h:(bz C pc).op=1) (hc:(bz C pc).pass t Bs a=true):mK t Bs C pc a (pc+1) (a+1)
 |RS {pc a:Nat} (h:(bz C pc).op=2):mK t Bs C pc a (bz C pc).x.toNat a
 |RQ {pc a:Nat} (h:(bz C pc).op=2):mK t Bs C pc a (bz C pc).y.toNat a
 |jmp {pc a:Nat} (h:(bz C pc).op=3):mK t Bs C pc a (bz C pc).x.toNat a
 |yC {pc a:Nat} (h:(bz C pc).op=4):mK t Bs C pc a (pc+1) a
 |ask {pc a:Nat} (h:(bz C pc).op=5) (hc:(bz C pc).pass t Bs a=true):mK t Bs C pc a (pc+1) a
inductive R8 (t:List Int) (Bs:List (List Bool)) (C:List au) (s:Nat):Nat->Nat->Prop
 |start:R8 t Bs C s 0 s
 |step {pc a P8 a':Nat} (h:R8 t Bs C s pc a) (k:mK t Bs C pc a P8 a'):R8 t Bs C s P8 a'
inductive Xd (t:List Int) (Bs:List (List Bool)) (C:List au) (q e:Nat):Nat->Nat->Prop
 |refl:Xd t Bs C q e q e
 |step {pc a P8 a':Nat} (k:mK t Bs C pc a P8 a') (h:Xd t Bs C q e P8 a'):Xd t Bs C q e pc a
section
variable {t:List Int}{Bs:List (List Bool)}{C:List au}
variable{a:Nat}{pc:Nat}
theorem Xd.snoc {q e q' e':Nat} (h:Xd t Bs C q e pc a) (k:mK t Bs C q e q' e'):Xd t Bs C q' e' pc a:=by
 induction h with
 |refl=>exact .step k .refl
 |step k' _ ih=>exact .step k' ih
theorem R8.to {s:Nat} (h:R8 t Bs C s pc a):Xd t Bs C pc a 0 s:=by
 induction h with
 |start=>exact .refl
 |step _ k ih=>exact ih.snoc k
theorem de.found {fin:Nat->Bool}{s pc a:Nat}{aL:List Int}{n:Nat}{r:Option (Nat×List Int)} (w:de t Bs C fin pc a aL n r):∀v,r=some v->R8 t Bs C s pc a->∃q,(bz C q).op=0/\R8 t Bs C s q v.1/\fin v.1=true:=by
 induction w with
 |done h hf=>intro v hv hr;cases hv;exact⟨_,h,hr,hf⟩
 |uq|Tj|vp=>intro v hv;cases hv
 |rd h hc w ih=>exact λv hv hr=>ih v hv (hr.step (.rd h hc))
 |Nn h w ih=>exact λv hv hr=>ih v hv (hr.step (.RS h))
 |Sl h w w2 ih gy=>exact λv hv hr=>gy v hv (hr.step (.RQ h))
 |jmp h w ih=>exact λv hv hr=>ih v hv (hr.step (.jmp h))
 |yC h w ih=>exact λv hv hr=>ih v hv (hr.step (.yC h))
 |ask h hc w ih=>exact λv hv hr=>ih v hv (hr.step (.ask h hc))
theorem de.Wb {fin:Nat->Bool}{aL:List Int}{n:Nat}{r:Option (Nat×List Int)} (w:de t Bs C fin pc a aL n r):r=none->∀q e,(bz C q).op=0->Xd t Bs C q e pc a->fin e=false:=by
 induction w with
 |done h hf=>intro hr;cases hr
 |Nn h w ih=>intro hr;cases hr
 |uq h hf =>
  intro _ q e hq ht;cases ht with
  |refl=>exact hf
  |step k ht=>cases k <;> omega
 |Tj h hc =>
  intro _ q e hq ht;cases ht with
  |refl=>omega
  |step k ht =>
   cases k with
   |rd h' MT=>rw[hc]at MT;cases MT
   |RS h'|RQ h'|jmp h'|yC h'|ask h'=>omega
 |vp h hc =>
  intro _ q e hq ht;cases ht with
  |refl=>omega
  |step k ht =>
   cases k with
   |ask h' MT=>rw[hc]at MT;cases MT
   |RS h'|RQ h'|jmp h'|yC h'|rd h'=>omega
 |rd h hc w ih =>
  intro hr q e hq ht;cases ht with
  |refl=>omega
  |step k ht =>
   cases k with
   |rd h' MT=>exact ih hr q e hq ht
   |RS h'|RQ h'|jmp h'|yC h'|ask h'=>omega
 |Sl h w w2 ih gy =>
  intro hr q e hq ht;cases ht with
  |refl=>omega
  |step k ht =>
   cases k with
   |RS h'=>exact ih rfl q e hq ht
   |RQ h'=>exact gy hr q e hq ht
   |rd h'|jmp h'|yC h'|ask h'=>omega
 |jmp h w ih =>
  intro hr q e hq ht;cases ht with
  |refl=>omega
  |step k ht =>
   cases k with
   |jmp h'=>exact ih hr q e hq ht
   |rd h'|RS h'|RQ h'|yC h'|ask h'=>omega
 |yC h w ih =>
  intro hr q e hq ht;cases ht with
  |refl=>omega
  |step k ht =>
   cases k with
   |yC h'=>exact ih hr q e hq ht
   |rd h'|RS h'|RQ h'|jmp h'|ask h'=>omega
 |ask h hc w ih =>
  intro hr q e hq ht;cases ht with
  |refl=>omega
  |step k ht =>
   cases k with
   |ask h' MT=>exact ih hr q e hq ht
   |rd h'|RS h'|RQ h'|jmp h'|yC h'=>omega
def tM (p:Nat) (st:sC) (q:Nat):Prop:=st.ad[q]?=some (p+1)
def Zs (t:List Int) (Bs:List (List Bool)) (C:List au) (p:Nat) (S:Nat->Prop) (st:sC):Prop:=∀q,q<C.length->tM p st q->¬S q ->
 (∀q',mK t Bs C q p q' p->tM p st q')/\((bz C q).op=0->st.ho[p]?=some true)/\((bz C q).op=1->(bz C q).pass t Bs p=true->q∈st.rd)
structure AdB (t:List Int) (Bs:List (List Bool)) (C:List au) (p n:Nat) (S:Nat->Prop) (st st':sC):Prop where
 mkd:tM p st' n
 mono:∀q,tM p st q->tM p st' q
 Zd:∀q,q∈st.rd->q∈st'.rd
 Qm:st.ho[p]?=some true->st'.ho[p]?=some true
 cl:Zs t Bs C p S st'
 rdo:∀q,q∈st'.rd->q∈st.rd\/(tM p st' q/\(bz C q).op=1/\(bz C q).pass t Bs p=true)
 RL:∀j,j≠p->st'.ho[j]?=st.ho[j]?
 An:st'.ho[p]?=some true->st.ho[p]?=some true\/∃q,tM p st' q/\(bz C q).op=0
 sound:∀P:Nat->Prop,(∀q q',P q->mK t Bs C q p q' p->P q')->P n->(∀q,tM p st q->P q)->∀q,tM p st' q->P q
 len:st'.ad.length=st.ad.length/\st'.ho.length=st.ho.length/\fy p st'.ad<=fy p st.ad
theorem jS {P8:Nat} (k:mK t Bs C pc a P8 a):((bz C pc).op=2/\(P8=(bz C pc).x.toNat\/P8=(bz C pc).y.toNat))\/((bz C pc).op=3/\P8=(bz C pc).x.toNat)\/((bz C pc).op=4/\P8=pc+1)\/((bz C pc).op=5/\(bz C pc).pass t Bs a=true/\P8=pc+1):=by
 cases k with
 |RS h=>exact .inl ⟨h,.inl rfl⟩
 |RQ h=>exact .inl ⟨h,.inr rfl⟩
 |jmp h=>exact .inr (.inl ⟨h,rfl⟩)
 |yC h=>exact .inr (.inr (.inl ⟨h,rfl⟩))
 |ask h hc=>exact .inr (.inr (.inr ⟨h,hc,rfl⟩))
theorem vh (hg:fw t Bs C) {p:Nat} (hp:p<=t.length):∀(k n:Nat) (S:Nat->Prop) (st:sC),n<C.length->st.ad.length=C.length->st.ho.length=t.length+1->fy p st.ad<k->Zs t Bs C p S st->AdB t Bs C p n S st (gJ t Bs C p k n st)
 |0,_,_,_,_,_,_,hu,_=>ae
 |k+1,n,S,st,hn,hd,hh,hu,hC=>by
  rw[gJ];obtain⟨x,hx⟩:∃x,st.ad[n]?=some x:=bZ;by_cases hm:x=p+1
  ·rw[be (.inr (by rw[hx,hm]))];have hmk:tM p st n:=by unfold tM;rw[hx,hm]
   exact⟨hmk,λ_ h=>h,λ_ h=>h,λh=>h,hC,λ_ h=>.inl h,λ_ _=>rfl,λh=>.inl h,λP _ _ h=>h,rfl,rfl,ajc _⟩
  rw[ap (by rw[hx];simp [hm])];have Xv:=rI hx hm;generalize ck:(⟨st.ad.set n (p+1),st.ho,st.rd,st.gn⟩:sC)=dM;have d1:dM.ad.length=C.length:=by rw[<- ck];simpa using hd
  have d2:dM.ho.length=t.length+1:=by rw[<- ck];exact hh
  have d3:fy p dM.ad<k:=by rw[<- ck];show fy p (st.ad.set n (p+1))<k;omega
  have ZN:fy p dM.ad<=fy p st.ad:=by rw[<- ck];show fy p (st.ad.set n (p+1))<=_;omega
  have d4:dM.ho=st.ho:=by rw[<- ck]
  have d5:dM.rd=st.rd:=by rw[<- ck]
  have d6:tM p dM n:=by rw[<- ck];show (st.ad.set n (p+1))[n]?=_;rw[ajm ae]
  have d7:∀q,tM p st q->tM p dM q:=by
   intro q hq;rw[<- ck];show (st.ad.set n (p+1))[q]?=_;by_cases e:n=q
   ·subst e;rw[ajm ae]
   ·rw[ajy e];exact hq
  have d8:∀q,tM p dM q->tM p st q\/q=n:=by
   intro q hq;rw[<- ck]at hq;by_cases e:n=q
   ·exact .inr e.symm
   ·refine .inl ?_;unfold tM at hq ⊢;rw[<- ajy e];exact hq
  have d9:Zs t Bs C p (λq=>S q\/q=n) dM:=by intro q hq hk hs;have hq0:tM p st q:=(d8 q hk).resolve_right λe=>hs (.inr e);obtain⟨a1,a2,a3⟩:=hC q hq hq0 λh=>hs (.inl h);exact⟨λq' k=>d7 q' (a1 q' k),by rw[d4];exact a2,by rw[d5];exact a3⟩
  have ZK:dM.gn=st.gn:=by rw[<- ck]
  have close:∀st':sC,(∀q,tM p dM q->tM p st' q)->(∀q,q∈st.rd->q∈st'.rd)->(st.ho[p]?=some true->st'.ho[p]?=some true)->Zs t Bs C p (λq=>S q\/q=n) st' ->
    (∀q',mK t Bs C n p q' p->tM p st' q')->((bz C n).op=0->st'.ho[p]?=some true)->((bz C n).op=1->(bz C n).pass t Bs p=true->n∈st'.rd) ->
    (∀q,q∈st'.rd->q∈st.rd\/(tM p st' q/\(bz C q).op=1/\(bz C q).pass t Bs p=true))->(∀j,j≠p->st'.ho[j]?=st.ho[j]?)->(st'.ho[p]?=some true->st.ho[p]?=some true\/∃q,tM p st' q/\(bz C q).op=0) ->
    (∀P:Nat->Prop,(∀q q',P q->mK t Bs C q p q' p->P q')->P n->(∀q,tM p dM q->P q)->∀q,tM p st' q->P q)->(st'.ad.length=st.ad.length/\st'.ho.length=st.ho.length/\fy p st'.ad<=fy p st.ad)->AdB t Bs C p n S st st':=by
   intro st' c1 c2 c3 c4 c5 c6 c7 c8 c9 c10 c11 c12;refine⟨c1 n d6,λq hq=>c1 q (d7 q hq),c2,c3,λq hq hk hs=>?_,c8,c9,c10,λP hP Te mD=>c11 P hP Te (λq hq=>(d8 q hq).elim (mD q) λe=>e ▸ Te),c12⟩;by_cases e:q=n
   ·subst e;exact⟨c5,c6,c7⟩
   ·exact c4 q hq hk λh=>h.elim hs e
  have tN:dM.ad.length=st.ad.length:=ae;have y9:dM.ho.length=st.ho.length:=ae;have one:∀n2,(∀q',mK t Bs C n p q' p->q'=n2)->mK t Bs C n p n2 p->n2<C.length->(bz C n).op≠0->(bz C n).op≠1->AdB t Bs C p n S st (gJ t Bs C p k n2 dM):=by intro n2 h1 h2 h3 h4 h5;have ih:=vh hg hp k n2 (λq=>S q\/q=n) dM h3 d1 d2 d3 d9;refine close _ ih.mono (λq hq=>ih.Zd q (by rw[d5];exact hq)) (λh=>ih.Qm (by rw[d4];exact h)) ih.cl (λq' Fx=>by rw[h1 q' Fx];exact ih.mkd) (λh=>absurd h h4) (λh=>absurd h h5) (λq hq=>by rw[<- d5];exact ih.rdo q hq) (λj hj=>by rw[<- d4];exact ih.RL j hj) (λh=>by rw[<- d4];exact ih.An h) (λP hP Te mD=>ih.sound P hP (hP _ _ Te h2) mD) ⟨ih.len.1.trans tN,ih.len.2.1.trans y9,aj0 ih.len.2.2 ZN⟩
  have An:=hg.ops n hn;simp only;by_cases o0:(bz C n).op=0
  ·rw[be o0];refine close _ (λq hq=>hq) (λq hq=>by rw[d5];exact hq) (λ_=>?_) (λq hq hk hs=>?_) (λq' Fx=>?_) (λ_=>?_) (λh=>ae) (λq hq=>.inl (by rw[d5]at hq;exact hq)) (λj hj=>?_) (λ_=>.inr ⟨n,d6,o0⟩) (λP _ _ h=>h) ⟨tN,by simp [d4],ZN⟩
   ·show (dM.ho.set p true)[p]?=_;rw[ajm ae]
   ·obtain⟨a1,a2,a3⟩:=d9 q hq hk hs;refine⟨a1,λ_=>?_,a3⟩;show (dM.ho.set p true)[p]?=_;rw[ajm ae]
   ·rcases jS Fx with h|h|h|h <;> omega
   ·show (dM.ho.set p true)[p]?=_;rw[ajm ae]
   ·show (dM.ho.set p true)[j]?=_;rw[ajy (Ne.symm hj),d4]
  rw[ap o0];by_cases o1:(bz C n).op=1
  ·rw[be o1];by_cases sN:(bz C n).pass t Bs p=true
   ·rw[be sN];refine close _ (λq hq=>hq) (λq hq=>?_) (λh=>by rw[d4];exact h) (λq hq hk hs=>?_) (λq' Fx=>?_) (λh=>absurd h o0) (λ_ _=>?_) (λq hq=>?_) (λj hj=>by rw[d4]) (λh=>.inl (by rw[d4]at h;exact h)) (λP _ _ h=>h) ⟨tN,by simp [d4],ZN⟩
    ·show q∈dM.rd++[n]
     rw[d5];exact List.mem_append_left _ hq
    ·obtain⟨a1,a2,a3⟩:=d9 q hq hk hs;exact⟨a1,a2,λh1 h2=>List.mem_append_left _ (a3 h1 h2)⟩
    ·rcases jS Fx with h|h|h|h <;> omega
    ·exact List.mem_append_right _ aj
    ·have hq:q∈dM.rd++[n]:=hq;rcases List.mem_append.1 hq with hq|hq
     ·exact .inl (by rw[<- d5];exact hq)
     ·rw[List.mem_singleton.1 hq];exact .inr ⟨d6,o1,sN⟩
   ·rw[ap sN];refine close dM (λq hq=>hq) (λq hq=>by rw[d5];exact hq) (λh=>by rw[d4];exact h) d9 (λq' Fx=>?_) (λh=>absurd h o0) (λ_ h=>absurd h sN) (λq hq=>.inl (by rw[<- d5];exact hq)) (λj hj=>by rw[d4]) (λh=>.inl (by rw[<- d4];exact h)) (λP _ _ h=>h) ⟨tN,y9,ZN⟩;rcases jS Fx with h|h|h|h <;> omega
  rw[ap o1];by_cases o2:(bz C n).op=2
  ·rw[be o2];obtain⟨x0,x1,y0,y1⟩:=hg.split n hn o2;have Oz:=vh hg hp k (bz C n).x.toNat (λq=>S q\/q=n) dM ae d1 d2 d3 d9;generalize gJ t Bs C p k (bz C n).x.toNat dM=F0 at *;have NM:=vh hg hp k (bz C n).y.toNat (λq=>S q\/q=n) F0 ae (Oz.len.1.trans d1) (Oz.len.2.1.trans d2) (by have:=Oz.len.2.2;omega) Oz.cl;generalize gJ t Bs C p k (bz C n).y.toNat F0=st3 at *;refine close _ (λq hq=>NM.mono q (Oz.mono q hq)) (λq hq=>NM.Zd q (Oz.Zd q (by rw[d5];exact hq))) (λh=>NM.Qm (Oz.Qm (by rw[d4];exact h))) NM.cl (λq' Fx=>?_) (λh=>absurd h o0) (λh=>absurd h o1) (λq hq=>?_) (λj hj=>by rw[NM.RL j hj,Oz.RL j hj,d4]) (λh=>?_) (λP hP Te mD=>NM.sound P hP (hP _ _ Te (.RQ o2)) (Oz.sound P hP (hP _ _ Te (.RS o2)) mD)) ⟨(NM.len.1.trans Oz.len.1).trans tN,(NM.len.2.1.trans Oz.len.2.1).trans y9,aj0 NM.len.2.2 (aj0 Oz.len.2.2 ZN)⟩
   ·rcases jS Fx with h|h|h|h
    ·rcases h.2 with e|e
     ·rw[e];exact NM.mono _ Oz.mkd
     ·rw[e];exact NM.mkd
    ·omega
    ·omega
    ·omega
   ·rcases NM.rdo q hq with hq|hq
    ·rcases Oz.rdo q hq with hq|⟨h1,h2⟩
     ·exact .inl (by rw[<- d5];exact hq)
     ·exact .inr ⟨NM.mono q h1,h2⟩
    ·exact .inr hq
   ·rcases NM.An h with h|h
    ·rcases Oz.An h with h|⟨q,h1,h2⟩
     ·exact .inl (by rw[<- d4];exact h)
     ·exact .inr ⟨q,NM.mono q h1,h2⟩
    ·exact .inr h
  rw[ap o2];by_cases o3:(bz C n).op=3
  ·rw[be o3];obtain⟨x0,x1⟩:=hg.jump n hn o3;refine one _ (λq' Fx=>?_) (.jmp o3) ae o0 o1;rcases jS Fx with h|h|h|h <;> omega
  rw[ap o3];by_cases o4:(bz C n).op=4
  ·rw[be o4];refine one _ (λq' Fx=>?_) (.yC o4) (hg.next n hn (.inr (.inl o4))) o0 o1;rcases jS Fx with h|h|h|h <;> omega
  rw[ap o4];have o5:(bz C n).op=5:=ae;rw[be o5];by_cases sN:(bz C n).pass t Bs p=true
  ·rw[be sN];refine one _ (λq' Fx=>?_) (.ask o5 sN) (hg.next n hn (.inr (.inr o5))) o0 o1;rcases jS Fx with h|h|h|h <;> omega
  ·rw[ap sN];refine close dM (λq hq=>hq) (λq hq=>by rw[d5];exact hq) (λh=>by rw[d4];exact h) d9 (λq' Fx=>?_) (λh=>absurd h o0) (λh=>absurd h o1) (λq hq=>.inl (by rw[<- d5];exact hq)) (λj hj=>by rw[d4]) (λh=>.inl (by rw[<- d4];exact h)) (λP _ _ h=>h) ⟨tN,y9,ZN⟩;rcases jS Fx with h|h|h|h
   ·omega
   ·omega
   ·omega
   ·exact absurd h.2.1 sN
end
section
variable {t:List Int}{Bs:List (List Bool)}{C:List au}
def ZW (t:List Int) (Bs:List (List Bool)) (C:List au) (p q:Nat):Prop:=∃s,s<=p/\R8 t Bs C s q p
theorem LZ (p:Nat) (l:List Nat):fy p l<=l.length:=ajY
theorem By (hg:fw t Bs C) {p:Nat} (hp:p<=t.length):∀(l:List Nat) (st:sC),(∀q∈l,q+1<C.length)->st.ad.length=C.length->st.ho.length=t.length+1->Zs t Bs C p (λ_=>False) st ->
  (∀q∈l,tM p (cL t Bs C p l st) (q+1))/\(∀q,tM p st q->tM p (cL t Bs C p l st) q)/\Zs t Bs C p (λ_=>False) (cL t Bs C p l st) /\
   (∀q,q∈(cL t Bs C p l st).rd->q∈st.rd\/(tM p (cL t Bs C p l st) q/\(bz C q).op=1/\(bz C q).pass t Bs p=true))/\(∀j,j≠p->(cL t Bs C p l st).ho[j]?=st.ho[j]?) /\
   ((cL t Bs C p l st).ho[p]?=some true->st.ho[p]?=some true\/∃q,tM p (cL t Bs C p l st) q/\(bz C q).op=0) /\
   (∀P:Nat->Prop,(∀q q',P q->mK t Bs C q p q' p->P q')->(∀q∈l,P (q+1))->(∀q,tM p st q->P q)->∀q,tM p (cL t Bs C p l st) q->P q) /\
   (cL t Bs C p l st).ad.length=C.length/\(cL t Bs C p l st).ho.length=t.length+1
 |[],st,_,hd,hh,hc=>⟨λq hq=>absurd hq ajP,λ_ h=>h,hc,λ_ h=>.inl h,λ_ _=>rfl,λh=>.inl h,λP _ _ h=>h,hd,hh⟩
 |n::l,st,hl,hd,hh,hc=>by
  have hu:=LZ p st.ad;have a:=vh hg hp (C.length+1) (n+1) (λ_=>False) st (hl n aj) hd hh ae hc;have e:cL t Bs C p (n::l) st=cL t Bs C p l (gJ t Bs C p (C.length+1) (n+1) st):=rfl;rw[e];generalize gJ t Bs C p (C.length+1) (n+1) st=F0 at *;obtain⟨b1,b2,b3,b4,b5,b6,b7,b8,b9⟩:=By hg hp l F0 (λq hq=>hl q (by simp [hq])) (a.len.1.trans hd) (a.len.2.1.trans hh) a.cl;refine⟨λq hq=>?_,λq hq=>b2 q (a.mono q hq),b3,λq hq=>?_,λj hj=>by rw[b5 j hj,a.RL j hj],λh=>?_,λP hP hn hm=>b7 P hP (λq hq=>hn q (by simp [hq])) (a.sound P hP (hn n aj) hm),b8,b9⟩
  ·rcases List.mem_cons.1 hq with rfl|hq
   ·exact b2 _ a.mkd
   ·exact b1 q hq
  ·rcases b4 q hq with h|h
   ·rcases a.rdo q h with h|⟨h1,h2⟩
    ·exact .inl h
    ·exact .inr ⟨b2 q h1,h2⟩
   ·exact .inr h
  ·rcases b6 h with h|h
   ·rcases a.An h with h|⟨q,h1,h2⟩
    ·exact .inl h
    ·exact .inr ⟨q,b2 q h1,h2⟩
   ·exact .inr h
structure Zh (t:List Int) (Bs:List (List Bool)) (C:List au) (p:Nat) (st:sC):Prop where
 lad:st.ad.length=C.length
 lho:st.ho.length=t.length+1
 old:∀m∈st.ad,m<=p
 rd0:p=0->st.rd=[]
 Zd:∀p',p=p'+1->∀q,q∈st.rd ↔ q<C.length/\ZW t Bs C p' q/\(bz C q).op=1/\(bz C q).pass t Bs p'=true
 Qm:∀j,j<p->(st.ho[j]?=some true ↔ ∃q,q<C.length/\ZW t Bs C j q/\(bz C q).op=0)
 new:∀j,p<=j->j<=t.length->st.ho[j]?=some false
theorem Ef {p:Nat}:∀(k n:Nat) (st:sC),(∀m∈st.ad,m<=p+1)->∀m∈(gJ t Bs C p k n st).ad,m<=p+1
 |0,_,_,h=>h
 |k+1,n,st,h=>by
  have ih:∀(n:Nat) (st:sC),(∀m∈st.ad,m<=p+1)->∀m∈(gJ t Bs C p k n st).ad,m<=p+1:=λn st h=>Ef k n st h;rw[gJ];split
  ·exact h
  have h1:∀m∈st.ad.set n (p+1),m<=p+1:=λm hm=>by
   rcases aj4 hm with hm|rfl
   ·exact h m hm
   ·exact ajc _
  simp only;split
  ·exact h1
  split
  ·split
   ·exact h1
   ·exact h1
  split
  ·exact ih _ _ (ih _ _ h1)
  split
  ·exact ih _ _ h1
  split
  ·exact ih _ _ h1
  split
  ·split
   ·exact ih _ _ h1
   ·exact h1
  ·exact h1
theorem BF {p:Nat}:∀(l:List Nat) (st:sC),(∀m∈st.ad,m<=p+1)->∀m∈(cL t Bs C p l st).ad,m<=p+1
 |[],_,h=>h
 |n::l,st,h=>BF l _ (Ef _ _ st h)
theorem DL (hg:fw t Bs C) (h0:0<C.length) {s q p:Nat} (h:R8 t Bs C s q p):q<C.length:=by
 induction h with
 |start=>exact h0
 |step h k ih =>
  cases k with
  |rd h1=>exact hg.next _ ih (.inl h1)
  |RS h1=>have:=hg.split _ ih h1;omega
  |RQ h1=>have:=hg.split _ ih h1;omega
  |jmp h1=>have:=hg.jump _ ih h1;omega
  |yC h1=>exact hg.next _ ih (.inr (.inl h1))
  |ask h1=>exact hg.next _ ih (.inr (.inr h1))
theorem YQ {s q p:Nat} (h:R8 t Bs C s q p):s<=p:=by
 induction h with
 |start=>exact ajc _
 |step h k ih=>cases k <;> omega
theorem SO (hg:fw t Bs C) (h0:0<C.length) {p:Nat} (hp:p<=t.length) {st:sC} (hR:Zh t Bs C p st) (gn:Nat) :
  Zh t Bs C (p+1) (gJ t Bs C p (C.length+1) 0 (cL t Bs C p st.rd ⟨st.ad,st.ho,[],gn⟩)):=by
 have MQ:∀q,¬tM p (⟨st.ad,st.ho,[],gn⟩:sC) q:=λq hq=>by have:=hR.old _ (ai4 hq);omega
 have H6:∀q∈st.rd,q+1<C.length:=by
  intro q hq;cases p with
  |zero=>rw[hR.rd0 rfl]at hq;cases hq
  |succ p' =>
   obtain⟨a1,a2,a3,a4⟩:=(hR.Zd p' rfl q).1 hq;exact hg.next q a1 (.inl a3)
 obtain⟨b1,b2,b3,b4,b5,b6,b7,b8,b9⟩:=By hg hp st.rd ⟨st.ad,st.ho,[],gn⟩ H6 hR.lad hR.lho (λq _ hk=>absurd hk (MQ q));have bo:=BF (t:=t) (Bs:=Bs) (C:=C) (p:=p) st.rd ⟨st.ad,st.ho,[],gn⟩ (λm hm=>by have:=hR.old m hm;omega);generalize cL t Bs C p st.rd ⟨st.ad,st.ho,[],gn⟩=F0 at *;have hu:=LZ p F0.ad;have a:=vh hg hp (C.length+1) 0 (λ_=>False) F0 h0 b8 b9 ae b3;have ao:=Ef (t:=t) (Bs:=Bs) (C:=C) (p:=p) (C.length+1) 0 F0 bo;generalize gJ t Bs C p (C.length+1) 0 F0=st3 at *;have Ow:∀q,tM p st3 q->ZW t Bs C p q:=by
  have iy:∀q q',ZW t Bs C p q->mK t Bs C q p q' p->ZW t Bs C p q':=λq q' ⟨s,h1,h2⟩ k=>⟨s,h1,h2.step k⟩
  refine a.sound _ iy ⟨p,ajc _,.start⟩ (b7 _ iy (λq hq=>?_) (λq hq=>absurd hq (MQ q)));cases p with
  |zero=>rw[hR.rd0 rfl]at hq;cases hq
  |succ p' =>
   obtain⟨a1,⟨s,c1,c2⟩,a3,a4⟩:=(hR.Zd p' rfl q).1 hq;exact⟨s,ae,c2.step (.rd a3 a4)⟩
 have WL:∀s q p',R8 t Bs C s q p'->p'=p->tM p st3 q:=by
  intro s q p' h;induction h with
  |start=>intro _;exact a.mkd
  |@step pc a' P8 a'' h k ih =>
   intro e;subst e;have aB:=DL hg h0 h;by_cases ea:a'=a''
   ·subst ea;exact(a.cl pc aB (ih rfl) (λh=>h)).1 _ k
   ·cases k with
    |rd h1 hc=>exact a.mono _ (b1 pc ((hR.Zd a' rfl pc).2 ⟨aB,⟨s,YQ h,h⟩,h1,hc⟩))
    |RS|RQ|jmp|yC|ask=>exact absurd rfl ea
 refine⟨a.len.1.trans b8,a.len.2.1.trans b9,ao,λh=>ae,λp' hp' q=>?_,λj hj=>?_,λj hj hj2=>?_⟩
 ·have:p'=p:=by omega
  subst this;constructor
  ·intro hq;have key:tM p' st3 q/\(bz C q).op=1/\(bz C q).pass t Bs p'=true:=by
    rcases a.rdo q hq with h|h
    ·rcases b4 q h with h|⟨h1,h2⟩
     ·cases h
     ·exact⟨a.mono q h1,h2⟩
    ·exact h
   have wZ:=Ow q key.1;exact⟨DL hg h0 wZ.choose_spec.2,wZ,key.2⟩
  ·rintro ⟨h1,⟨s,h2,h3⟩,h4,h5⟩;exact(a.cl q h1 (WL s q p' h3 rfl) (λh=>h)).2.2 h4 h5
 ·by_cases e:j=p
  ·subst e;constructor
   ·intro h;rcases a.An h with h|⟨q,h1,h2⟩
    ·rcases b6 h with h|⟨q,h1,h2⟩
     ·have:=hR.new j (ajc _) hp;rw[show (⟨st.ad,st.ho,[],gn⟩:sC).ho=st.ho from rfl,this]at h;cases h
     ·have wZ:=Ow q (a.mono q h1);exact⟨q,DL hg h0 wZ.choose_spec.2,wZ,h2⟩
    ·have wZ:=Ow q h1;exact⟨q,DL hg h0 wZ.choose_spec.2,wZ,h2⟩
   ·rintro ⟨q,h1,⟨s,h2,h3⟩,h4⟩;exact(a.cl q h1 (WL s q j h3 rfl) (λh=>h)).2.1 h4
  ·rw[a.RL j e,b5 j e];exact hR.Qm j ae
 ·rw[a.RL j ae,b5 j ae];exact hR.new j ae hj2
theorem xL (hg:fw t Bs C) (h0:0<C.length):∀p,p<=t.length+1->Zh t Bs C p (cQ t Bs C p).1
 |0,_=>by
  refine⟨by simp [cQ],by simp [cQ],λm hm=>?_,λ_=>rfl,λp' h=>ae,λj h=>ae,λj _ hj=>?_⟩
  ·have hm:m∈List.replicate C.length 0:=hm;rw[(List.mem_replicate.1 hm).2];exact ajc _
  ·show (List.replicate (t.length+1) false)[j]?=_;rw[akb,tK]
 |p+1,hp=>SO hg h0 ae (xL hg h0 p ae) _
theorem EM (hg:fw t Bs C) (h0:0<C.length) {e s:Nat} (he:e<=t.length) (hs:s<=e) {aL:List Int}{m:Nat}{v:Nat×List Int} (w:de t Bs C (λa=>decide (a=e)) 0 s aL m (some v)):(rz t Bs C)[e]?=some true:=by obtain⟨q,h1,h2,h3⟩:=w.found v rfl (s:=s) .start;have h3:v.1=e:=of_decide_eq_true h3;rw[h3]at h2;exact((xL hg h0 (t.length+1) (ajc _)).Qm e ae).2 ⟨q,DL hg h0 h2,⟨s,hs,h2⟩,h1⟩
theorem HF (hg:fw t Bs C) (h0:0<C.length) {e:Nat} (he:e<=t.length) (h:∀s,s<=e->∃aL m,de t Bs C (λa=>decide (a=e)) 0 s aL m none):(rz t Bs C)[e]?=some false:=by
 have hR:=xL hg h0 (t.length+1) (ajc _);have hl:e<(rz t Bs C).length:=by unfold rz;rw[hR.lho];omega
 cases hb:(rz t Bs C)[e]? with
 |none=>rw[ajg hl]at hb;cases hb
 |some b =>
  cases b with
  |false=>rfl
  |true =>
   exfalso;obtain⟨q,h1,⟨s,h2,h3⟩,h4⟩:=(hR.Qm e ae).1 hb;obtain⟨aL,m,w⟩:=h s h2;have:=w.Wb rfl q e h4 h3.to;simp at this
end
end Go.Proofs.Ytfmdmlfhigocaaa
