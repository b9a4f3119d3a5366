/- A part of the proof. -/
import Derived.Test.YtjjfioalgbecmaaGreatOA22
set_option linter.unusedSimpArgs false
set_option linter.unusedVariables false
open Nat renaming reduceShiftRight → qa, reduceMod → qe, reduceEqDiff → Fp, reduceBEq → Ft
set_option maxRecDepth 100000
set_option maxHeartbeats 80000000
namespace Go.Proofs.YtjjfioalgbecmaaGreat
open Go.VL Go.Proofs.Tryz
inductive mQ (t:List Int) (Bs:List (List Bool)) (C:List aw):Nat->Nat->Nat->Nat->Prop
 |rd {pc a:Nat} (h:(bH C pc).op=1) (hc:(bH C pc).pass t Bs a=true):mQ t Bs C pc a (pc+1) (a+1)
 |Sw {pc a:Nat} (h:(bH C pc).op=2):mQ t Bs C pc a (bH C pc).x.toNat a
 |Su {pc a:Nat} (h:(bH C pc).op=2):mQ t Bs C pc a (bH C pc).y.toNat a
 |jmp {pc a:Nat} (h:(bH C pc).op=3):mQ t Bs C pc a (bH C pc).x.toNat a
 |yM {pc a:Nat} (h:(bH C pc).op=4):mQ t Bs C pc a (pc+1) a
 |ask {pc a:Nat} (h:(bH C pc).op=5) (hc:(bH C pc).pass t Bs a=true):mQ t Bs C pc a (pc+1) a
inductive SM (t:List Int) (Bs:List (List Bool)) (C:List aw) (s:Nat):Nat->Nat->Prop
 |start:SM t Bs C s 0 s
 |step {pc a Qr a':Nat} (h:SM t Bs C s pc a) (k:mQ t Bs C pc a Qr a'):SM t Bs C s Qr a'
inductive YK (t:List Int) (Bs:List (List Bool)) (C:List aw) (q e:Nat):Nat->Nat->Prop
 |refl:YK t Bs C q e q e
 |step {pc a Qr a':Nat} (k:mQ t Bs C pc a Qr a') (h:YK t Bs C q e Qr a'):YK t Bs C q e pc a
section
variable {t:List Int}{Bs:List (List Bool)}{C:List aw}
variable{a:Nat}{pc:Nat}
theorem YK.snoc {q e q' e':Nat} (h:YK t Bs C q e pc a) (k:mQ t Bs C q e q' e'):YK t Bs C q' e' pc a:=by
 induction h with
 |refl=>exact .step k .refl
 |step k' _ ih=>exact .step k' ih
theorem SM.to {s:Nat} (h:SM t Bs C s pc a):YK t Bs C pc a 0 s:=by
 induction h with
 |start=>exact .refl
 |step _ k ih=>exact ih.snoc k
theorem dt.found {fin:Nat->Bool}{s pc a:Nat}{aR:List Int}{n:Nat}{r:Option (Nat×List Int)} (w:dt t Bs C fin pc a aR n r):∀v,r=some v->SM t Bs C s pc a->∃q,(bH C q).op=0/\SM t Bs C s q v.1/\fin v.1=true:=by
 induction w with
 |done h hf=>intro v hv hr;cases hv;exact⟨_,h,hr,hf⟩
 |uE|Uc|vu=>intro v hv;cases hv
 |rd h hc w ih=>exact λv hv hr=>ih v hv (hr.step (.rd h hc))
 |NH h w ih=>exact λv hv hr=>ih v hv (hr.step (.Sw h))
 |S0 h w w2 ih mN=>exact λv hv hr=>mN v hv (hr.step (.Su h))
 |jmp h w ih=>exact λv hv hr=>ih v hv (hr.step (.jmp h))
 |yM h w ih=>exact λv hv hr=>ih v hv (hr.step (.yM h))
 |ask h hc w ih=>exact λv hv hr=>ih v hv (hr.step (.ask h hc))
theorem dt.Xx {fin:Nat->Bool}{aR:List Int}{n:Nat}{r:Option (Nat×List Int)} (w:dt t Bs C fin pc a aR n r):r=none->∀q e,(bH C q).op=0->YK t Bs C q e pc a->fin e=false:=by
 induction w with
 |done h hf=>intro hr;cases hr
 |NH h w ih=>intro hr;cases hr
 |uE h hf =>
  intro _ q e hq ht;cases ht with
  |refl=>exact hf
  |step k ht=>cases k <;> omega
 |Uc h hc =>
  intro _ q e hq ht;cases ht with
  |refl=>omega
  |step k ht =>
   cases k with
   |rd h' Nh=>rw[hc]at Nh;cases Nh
   |Sw h'|Su h'|jmp h'|yM h'|ask h'=>omega
 |vu h hc =>
  intro _ q e hq ht;cases ht with
  |refl=>omega
  |step k ht =>
   cases k with
   |ask h' Nh=>rw[hc]at Nh;cases Nh
   |Sw h'|Su h'|jmp h'|yM h'|rd h'=>omega
 |rd h hc w ih =>
  intro hr q e hq ht;cases ht with
  |refl=>omega
  |step k ht =>
   cases k with
   |rd h' Nh=>exact ih hr q e hq ht
   |Sw h'|Su h'|jmp h'|yM h'|ask h'=>omega
 |S0 h w w2 ih mN =>
  intro hr q e hq ht;cases ht with
  |refl=>omega
  |step k ht =>
   cases k with
   |Sw h'=>exact ih rfl q e hq ht
   |Su h'=>exact mN hr q e hq ht
   |rd h'|jmp h'|yM h'|ask h'=>omega
 |jmp h w ih =>
  intro hr q e hq ht;cases ht with
  |refl=>omega
  |step k ht =>
   cases k with
   |jmp h'=>exact ih hr q e hq ht
   |rd h'|Sw h'|Su h'|yM h'|ask h'=>omega
 |yM h w ih =>
  intro hr q e hq ht;cases ht with
  |refl=>omega
  |step k ht =>
   cases k with
   |yM h'=>exact ih hr q e hq ht
   |rd h'|Sw h'|Su h'|jmp h'|ask h'=>omega
 |ask h hc w ih =>
  intro hr q e hq ht;cases ht with
  |refl=>omega
  |step k ht =>
   cases k with
   |ask h' Nh=>exact ih hr q e hq ht
   |rd h'|Sw h'|Su h'|jmp h'|yM h'=>omega
def ug (p:Nat) (st:sR) (q:Nat):Prop:=st.ad[q]?=some (p+1)
def ClB (t:List Int) (Bs:List (List Bool)) (C:List aw) (p:Nat) (S:Nat->Prop) (st:sR):Prop:=∀q,q<C.length->ug p st q->¬S q ->
 (∀q',mQ t Bs C q p q' p->ug p st q')/\((bH C q).op=0->st.ho[p]?=some true)/\((bH C q).op=1->(bH C q).pass t Bs p=true->q∈st.rd)
structure AdB (t:List Int) (Bs:List (List Bool)) (C:List aw) (p n:Nat) (S:Nat->Prop) (st st':sR):Prop where
 mkd:ug p st' n
 mono:∀q,ug p st q->ug p st' q
 rds:∀q,q∈st.rd->q∈st'.rd
 QM:st.ho[p]?=some true->st'.ho[p]?=some true
 cl:ClB t Bs C p S st'
 rdo:∀q,q∈st'.rd->q∈st.rd\/(ug p st' q/\(bH C q).op=1/\(bH C q).pass t Bs p=true)
 Nd:∀j,j≠p->st'.ho[j]?=st.ho[j]?
 Aq:st'.ho[p]?=some true->st.ho[p]?=some true\/∃q,ug p st' q/\(bH C q).op=0
 sound:∀P:Nat->Prop,(∀q q',P q->mQ t Bs C q p q' p->P q')->P n->(∀q,ug p st q->P q)->∀q,ug p st' q->P q
 len:st'.ad.length=st.ad.length/\st'.ho.length=st.ho.length/\fC p st'.ad<=fC p st.ad
theorem jM {Qr:Nat} (k:mQ t Bs C pc a Qr a):((bH C pc).op=2/\(Qr=(bH C pc).x.toNat\/Qr=(bH C pc).y.toNat))\/((bH C pc).op=3/\Qr=(bH C pc).x.toNat)\/((bH C pc).op=4/\Qr=pc+1)\/((bH C pc).op=5/\(bH C pc).pass t Bs a=true/\Qr=pc+1):=by
 cases k with
 |Sw h=>exact .inl ⟨h,.inl rfl⟩
 |Su h=>exact .inl ⟨h,.inr rfl⟩
 |jmp h=>exact .inr (.inl ⟨h,rfl⟩)
 |yM h=>exact .inr (.inr (.inl ⟨h,rfl⟩))
 |ask h hc=>exact .inr (.inr (.inr ⟨h,hc,rfl⟩))
theorem vm (hg:fz t Bs C) {p:Nat} (hp:p<=t.length):∀(k n:Nat) (S:Nat->Prop) (st:sR),n<C.length->st.ad.length=C.length->st.ho.length=t.length+1->fC p st.ad<k->ClB t Bs C p S st->AdB t Bs C p n S st (gH t Bs C p k n st)
 |0,_,_,_,_,_,_,hu,_=>ae
 |k+1,n,S,st,hn,hd,hh,hu,hC=>by
  rw[gH];obtain⟨x,hx⟩:∃x,st.ad[n]?=some x:=cb;by_cases hm:x=p+1
  ·rw[be (.inr (by rw[hx,hm]))];have hmk:ug p st n:=by unfold ug;rw[hx,hm]
   exact⟨hmk,λ_ h=>h,λ_ h=>h,λh=>h,hC,λ_ h=>.inl h,λ_ _=>rfl,λh=>.inl h,λP _ _ h=>h,rfl,rfl,ale _⟩
  rw[ap (by rw[hx];simp [hm])];have Ze:=rO hx hm;generalize bL:(⟨st.ad.set n (p+1),st.ho,st.rd,st.gn⟩:sR)=dI;have d1:dI.ad.length=C.length:=by rw[<- bL];simpa using hd
  have d2:dI.ho.length=t.length+1:=by rw[<- bL];exact hh
  have d3:fC p dI.ad<k:=by rw[<- bL];show fC p (st.ad.set n (p+1))<k;omega
  have d3':fC p dI.ad<=fC p st.ad:=by rw[<- bL];show fC p (st.ad.set n (p+1))<=_;omega
  have d4:dI.ho=st.ho:=by rw[<- bL]
  have d5:dI.rd=st.rd:=by rw[<- bL]
  have d6:ug p dI n:=by rw[<- bL];show (st.ad.set n (p+1))[n]?=_;rw[List.getElem?_set_self ae]
  have d7:∀q,ug p st q->ug p dI q:=by
   intro q hq;rw[<- bL];show (st.ad.set n (p+1))[q]?=_;by_cases e:n=q
   ·subst e;rw[List.getElem?_set_self ae]
   ·rw[List.getElem?_set_ne e];exact hq
  have d8:∀q,ug p dI q->ug p st q\/q=n:=by
   intro q hq;rw[<- bL]at hq;by_cases e:n=q
   ·exact .inr e.symm
   ·refine .inl ?_;unfold ug at hq ⊢;rw[<- List.getElem?_set_ne e];exact hq
  have d9:ClB t Bs C p (λq=>S q\/q=n) dI:=by intro q hq hk hs;have hq0:ug p st q:=(d8 q hk).resolve_right λe=>hs (.inr e);obtain⟨a1,a2,a3⟩:=hC q hq hq0 λh=>hs (.inl h);exact⟨λq' k=>d7 q' (a1 q' k),by rw[d4];exact a2,by rw[d5];exact a3⟩
  have hgn:dI.gn=st.gn:=by rw[<- bL]
  have close:∀st':sR,(∀q,ug p dI q->ug p st' q)->(∀q,q∈st.rd->q∈st'.rd)->(st.ho[p]?=some true->st'.ho[p]?=some true)->ClB t Bs C p (λq=>S q\/q=n) st' ->
    (∀q',mQ t Bs C n p q' p->ug p st' q')->((bH C n).op=0->st'.ho[p]?=some true)->((bH C n).op=1->(bH C n).pass t Bs p=true->n∈st'.rd) ->
    (∀q,q∈st'.rd->q∈st.rd\/(ug p st' q/\(bH C q).op=1/\(bH C q).pass t Bs p=true))->(∀j,j≠p->st'.ho[j]?=st.ho[j]?)->(st'.ho[p]?=some true->st.ho[p]?=some true\/∃q,ug p st' q/\(bH C q).op=0) ->
    (∀P:Nat->Prop,(∀q q',P q->mQ t Bs C q p q' p->P q')->P n->(∀q,ug p dI q->P q)->∀q,ug p st' q->P q)->(st'.ad.length=st.ad.length/\st'.ho.length=st.ho.length/\fC p st'.ad<=fC p st.ad)->AdB t Bs C p n S st st':=by
   intro st' c1 c2 c3 c4 c5 c6 c7 c8 c9 c10 c11 c12;refine⟨c1 n d6,λq hq=>c1 q (d7 q hq),c2,c3,λq hq hk hs=>?_,c8,c9,c10,λP hP WW lE=>c11 P hP WW (λq hq=>(d8 q hq).elim (lE q) λe=>e ▸ WW),c12⟩;by_cases e:q=n
   ·subst e;exact⟨c5,c6,c7⟩
   ·exact c4 q hq hk λh=>h.elim hs e
  have tc:dI.ad.length=st.ad.length:=ae;have BT:dI.ho.length=st.ho.length:=ae;have one:∀n2,(∀q',mQ t Bs C n p q' p->q'=n2)->mQ t Bs C n p n2 p->n2<C.length->(bH C n).op≠0->(bH C n).op≠1->AdB t Bs C p n S st (gH t Bs C p k n2 dI):=by intro n2 h1 h2 h3 h4 h5;have ih:=vm hg hp k n2 (λq=>S q\/q=n) dI h3 d1 d2 d3 d9;refine close _ ih.mono (λq hq=>ih.rds q (by rw[d5];exact hq)) (λh=>ih.QM (by rw[d4];exact h)) ih.cl (λq' Cf=>by rw[h1 q' Cf];exact ih.mkd) (λh=>absurd h h4) (λh=>absurd h h5) (λq hq=>by rw[<- d5];exact ih.rdo q hq) (λj hj=>by rw[<- d4];exact ih.Nd j hj) (λh=>by rw[<- d4];exact ih.Aq h) (λP hP WW lE=>ih.sound P hP (hP _ _ WW h2) lE) ⟨ih.len.1.trans tc,ih.len.2.1.trans BT,al7 ih.len.2.2 d3'⟩
  have Aq:=hg.ops n hn;simp only;by_cases o0:(bH C n).op=0
  ·rw[be o0];refine close _ (λq hq=>hq) (λq hq=>by rw[d5];exact hq) (λ_=>?_) (λq hq hk hs=>?_) (λq' Cf=>?_) (λ_=>?_) (λh=>ae) (λq hq=>.inl (by rw[d5]at hq;exact hq)) (λj hj=>?_) (λ_=>.inr ⟨n,d6,o0⟩) (λP _ _ h=>h) ⟨tc,by simp [d4],d3'⟩
   ·exact Zct
   ·obtain⟨a1,a2,a3⟩:=d9 q hq hk hs;refine⟨a1,λ_=>?_,a3⟩;exact Zct
   ·exact ZbY
   ·exact Zct
   ·show (dI.ho.set p true)[j]?=_;rw[List.getElem?_set_ne (Ne.symm hj),d4]
  rw[ap o0];by_cases o1:(bH C n).op=1
  ·rw[be o1];by_cases tb:(bH C n).pass t Bs p=true
   ·rw[be tb];refine close _ (λq hq=>hq) (λq hq=>?_) (λh=>by rw[d4];exact h) (λq hq hk hs=>?_) (λq' Cf=>?_) (λh=>absurd h o0) (λ_ _=>?_) (λq hq=>?_) (λj hj=>by rw[d4]) (λh=>.inl (by rw[d4]at h;exact h)) (λP _ _ h=>h) ⟨tc,by simp [d4],d3'⟩
    ·show q∈dI.rd++[n]
     rw[d5];exact List.mem_append_left _ hq
    ·obtain⟨a1,a2,a3⟩:=d9 q hq hk hs;exact⟨a1,a2,λh1 h2=>List.mem_append_left _ (a3 h1 h2)⟩
    ·exact ZbY
    ·exact List.mem_append_right _ aq
    ·have hq:q∈dI.rd++[n]:=hq;rcases List.mem_append.1 hq with hq|hq
     ·exact .inl (by rw[<- d5];exact hq)
     ·rw[List.mem_singleton.1 hq];exact .inr ⟨d6,o1,tb⟩
   ·rw[ap tb];refine close dI (λq hq=>hq) (λq hq=>by rw[d5];exact hq) (λh=>by rw[d4];exact h) d9 (λq' Cf=>?_) (λh=>absurd h o0) (λ_ h=>absurd h tb) (λq hq=>.inl (by rw[<- d5];exact hq)) (λj hj=>by rw[d4]) (λh=>.inl (by rw[<- d4];exact h)) (λP _ _ h=>h) ⟨tc,BT,d3'⟩;exact ZbY
  rw[ap o1];by_cases o2:(bH C n).op=2
  ·rw[be o2];obtain⟨x0,x1,y0,y1⟩:=hg.split n hn o2;have OK:=vm hg hp k (bH C n).x.toNat (λq=>S q\/q=n) dI ae d1 d2 d3 d9;generalize gH t Bs C p k (bH C n).x.toNat dI=Gs at *;have N4:=vm hg hp k (bH C n).y.toNat (λq=>S q\/q=n) Gs ae (OK.len.1.trans d1) (OK.len.2.1.trans d2) (by have:=OK.len.2.2;omega) OK.cl;generalize gH t Bs C p k (bH C n).y.toNat Gs=st3 at *;refine close _ (λq hq=>N4.mono q (OK.mono q hq)) (λq hq=>N4.rds q (OK.rds q (by rw[d5];exact hq))) (λh=>N4.QM (OK.QM (by rw[d4];exact h))) N4.cl (λq' Cf=>?_) (λh=>absurd h o0) (λh=>absurd h o1) (λq hq=>?_) (λj hj=>by rw[N4.Nd j hj,OK.Nd j hj,d4]) (λh=>?_) (λP hP WW lE=>N4.sound P hP (hP _ _ WW (.Su o2)) (OK.sound P hP (hP _ _ WW (.Sw o2)) lE)) ⟨(N4.len.1.trans OK.len.1).trans tc,(N4.len.2.1.trans OK.len.2.1).trans BT,al7 N4.len.2.2 (al7 OK.len.2.2 d3')⟩
   ·rcases jM Cf with h|h|h|h
    ·rcases h.2 with e|e
     ·rw[e];exact N4.mono _ OK.mkd
     ·rw[e];exact N4.mkd
    ·omega
    ·omega
    ·omega
   ·rcases N4.rdo q hq with hq|hq
    ·rcases OK.rdo q hq with hq|⟨h1,h2⟩
     ·exact .inl (by rw[<- d5];exact hq)
     ·exact .inr ⟨N4.mono q h1,h2⟩
    ·exact .inr hq
   ·rcases N4.Aq h with h|h
    ·rcases OK.Aq h with h|⟨q,h1,h2⟩
     ·exact .inl (by rw[<- d4];exact h)
     ·exact .inr ⟨q,N4.mono q h1,h2⟩
    ·exact .inr h
  rw[ap o2];by_cases o3:(bH C n).op=3
  ·rw[be o3];obtain⟨x0,x1⟩:=hg.jump n hn o3;refine one _ (λq' Cf=>?_) (.jmp o3) ae o0 o1;exact ZbY
  rw[ap o3];by_cases o4:(bH C n).op=4
  ·rw[be o4];refine one _ (λq' Cf=>?_) (.yM o4) (hg.next n hn (.inr (.inl o4))) o0 o1;exact ZbY
  rw[ap o4];have o5:(bH C n).op=5:=ae;rw[be o5];by_cases tb:(bH C n).pass t Bs p=true
  ·rw[be tb];refine one _ (λq' Cf=>?_) (.ask o5 tb) (hg.next n hn (.inr (.inr o5))) o0 o1;exact ZbY
  ·rw[ap tb];refine close dI (λq hq=>hq) (λq hq=>by rw[d5];exact hq) (λh=>by rw[d4];exact h) d9 (λq' Cf=>?_) (λh=>absurd h o0) (λh=>absurd h o1) (λq hq=>.inl (by rw[<- d5];exact hq)) (λj hj=>by rw[d4]) (λh=>.inl (by rw[<- d4];exact h)) (λP _ _ h=>h) ⟨tc,BT,d3'⟩;rcases jM Cf with h|h|h|h
   ·omega
   ·omega
   ·omega
   ·exact absurd h.2.1 tb
end
section
variable {t:List Int}{Bs:List (List Bool)}{C:List aw}
def AtB (t:List Int) (Bs:List (List Bool)) (C:List aw) (p q:Nat):Prop:=∃s,s<=p/\SM t Bs C s q p
theorem Mr (p:Nat) (l:List Nat):fC p l<=l.length:=al4
theorem BG (hg:fz t Bs C) {p:Nat} (hp:p<=t.length):∀(l:List Nat) (st:sR),(∀q∈l,q+1<C.length)->st.ad.length=C.length->st.ho.length=t.length+1->ClB t Bs C p (λ_=>False) st ->
  (∀q∈l,ug p (cZ t Bs C p l st) (q+1))/\(∀q,ug p st q->ug p (cZ t Bs C p l st) q)/\ClB t Bs C p (λ_=>False) (cZ t Bs C p l st) /\
   (∀q,q∈(cZ t Bs C p l st).rd->q∈st.rd\/(ug p (cZ t Bs C p l st) q/\(bH C q).op=1/\(bH C q).pass t Bs p=true))/\(∀j,j≠p->(cZ t Bs C p l st).ho[j]?=st.ho[j]?) /\
   ((cZ t Bs C p l st).ho[p]?=some true->st.ho[p]?=some true\/∃q,ug p (cZ t Bs C p l st) q/\(bH C q).op=0) /\
   (∀P:Nat->Prop,(∀q q',P q->mQ t Bs C q p q' p->P q')->(∀q∈l,P (q+1))->(∀q,ug p st q->P q)->∀q,ug p (cZ t Bs C p l st) q->P q) /\
   (cZ t Bs C p l st).ad.length=C.length/\(cZ t Bs C p l st).ho.length=t.length+1
 |[],st,_,hd,hh,hc=>⟨λq hq=>absurd hq amc,λ_ h=>h,hc,λ_ h=>.inl h,λ_ _=>rfl,λh=>.inl h,λP _ _ h=>h,hd,hh⟩
 |n::l,st,hl,hd,hh,hc=>by
  have hu:=Mr p st.ad;have a:=vm hg hp (C.length+1) (n+1) (λ_=>False) st (hl n aq) hd hh ae hc;have e:cZ t Bs C p (n::l) st=cZ t Bs C p l (gH t Bs C p (C.length+1) (n+1) st):=rfl;rw[e];generalize gH t Bs C p (C.length+1) (n+1) st=Gs at *;obtain⟨b1,b2,b3,b4,b5,b6,b7,b8,b9⟩:=BG hg hp l Gs (λq hq=>hl q (by simp [hq])) (a.len.1.trans hd) (a.len.2.1.trans hh) a.cl;refine⟨λq hq=>?_,λq hq=>b2 q (a.mono q hq),b3,λq hq=>?_,λj hj=>by rw[b5 j hj,a.Nd j hj],λh=>?_,λP hP hn hm=>b7 P hP (λq hq=>hn q (by simp [hq])) (a.sound P hP (hn n aq) hm),b8,b9⟩
  ·rcases List.mem_cons.1 hq with rfl|hq
   ·exact b2 _ a.mkd
   ·exact b1 q hq
  ·rcases b4 q hq with h|h
   ·rcases a.rdo q h with h|⟨h1,h2⟩
    ·exact .inl h
    ·exact .inr ⟨b2 q h1,h2⟩
   ·exact .inr h
  ·rcases b6 h with h|h
   ·rcases a.Aq h with h|⟨q,h1,h2⟩
    ·exact .inl h
    ·exact .inr ⟨q,b2 q h1,h2⟩
   ·exact .inr h
structure abg (t:List Int) (Bs:List (List Bool)) (C:List aw) (p:Nat) (st:sR):Prop where
 lad:st.ad.length=C.length
 lho:st.ho.length=t.length+1
 old:∀m∈st.ad,m<=p
 rd0:p=0->st.rd=[]
 rds:∀p',p=p'+1->∀q,q∈st.rd ↔ q<C.length/\AtB t Bs C p' q/\(bH C q).op=1/\(bH C q).pass t Bs p'=true
 QM:∀j,j<p->(st.ho[j]?=some true ↔ ∃q,q<C.length/\AtB t Bs C j q/\(bH C q).op=0)
 new:∀j,p<=j->j<=t.length->st.ho[j]?=some false
theorem Ec {p:Nat}:∀(k n:Nat) (st:sR),(∀m∈st.ad,m<=p+1)->∀m∈(gH t Bs C p k n st).ad,m<=p+1
 |0,_,_,h=>h
 |k+1,n,st,h=>by
  have ih:∀(n:Nat) (st:sR),(∀m∈st.ad,m<=p+1)->∀m∈(gH t Bs C p k n st).ad,m<=p+1:=λn st h=>Ec k n st h;rw[gH];split
  ·exact h
  have h1:∀m∈st.ad.set n (p+1),m<=p+1:=λm hm=>by
   exact Zdq
  simp only;split
  ·exact h1
  split
  ·split
   ·exact h1
   ·exact h1
  split
  ·exact ih _ _ (ih _ _ h1)
  split
  ·exact ih _ _ h1
  split
  ·exact ih _ _ h1
  split
  ·split
   ·exact ih _ _ h1
   ·exact h1
  ·exact h1
theorem BN {p:Nat}:∀(l:List Nat) (st:sR),(∀m∈st.ad,m<=p+1)->∀m∈(cZ t Bs C p l st).ad,m<=p+1
 |[],_,h=>h
 |n::l,st,h=>BN l _ (Ec _ _ st h)
theorem DJ (hg:fz t Bs C) (h0:0<C.length) {s q p:Nat} (h:SM t Bs C s q p):q<C.length:=by
 induction h with
 |start=>exact h0
 |step h k ih =>
  cases k with
  |rd h1=>exact hg.next _ ih (.inl h1)
  |Sw h1=>have:=hg.split _ ih h1;omega
  |Su h1=>have:=hg.split _ ih h1;omega
  |jmp h1=>have:=hg.jump _ ih h1;omega
  |yM h1=>exact hg.next _ ih (.inr (.inl h1))
  |ask h1=>exact hg.next _ ih (.inr (.inr h1))
theorem aaK {s q p:Nat} (h:SM t Bs C s q p):s<=p:=by
 induction h with
 |start=>exact ale _
 |step h k ih=>cases k <;> omega
theorem TD (hg:fz t Bs C) (h0:0<C.length) {p:Nat} (hp:p<=t.length) {st:sR} (hR:abg t Bs C p st) (gn:Nat) :
  abg t Bs C (p+1) (gH t Bs C p (C.length+1) 0 (cZ t Bs C p st.rd ⟨st.ad,st.ho,[],gn⟩)):=by
 have Nc:∀q,¬ug p (⟨st.ad,st.ho,[],gn⟩:sR) q:=λq hq=>by have:=hR.old _ (List.mem_of_getElem? hq);omega
 have II:∀q∈st.rd,q+1<C.length:=by
  intro q hq;cases p with
  |zero=>rw[hR.rd0 rfl]at hq;cases hq
  |succ p' =>
   obtain⟨a1,a2,a3,a4⟩:=(hR.rds p' rfl q).1 hq;exact hg.next q a1 (.inl a3)
 obtain⟨b1,b2,b3,b4,b5,b6,b7,b8,b9⟩:=BG hg hp st.rd ⟨st.ad,st.ho,[],gn⟩ II hR.lad hR.lho (λq _ hk=>absurd hk (Nc q));have bo:=BN (t:=t) (Bs:=Bs) (C:=C) (p:=p) st.rd ⟨st.ad,st.ho,[],gn⟩ (λm hm=>by have:=hR.old m hm;omega);generalize cZ t Bs C p st.rd ⟨st.ad,st.ho,[],gn⟩=Gs at *;have hu:=Mr p Gs.ad;have a:=vm hg hp (C.length+1) 0 (λ_=>False) Gs h0 b8 b9 ae b3;have ao:=Ec (t:=t) (Bs:=Bs) (C:=C) (p:=p) (C.length+1) 0 Gs bo;generalize gH t Bs C p (C.length+1) 0 Gs=st3 at *;have OI:∀q,ug p st3 q->AtB t Bs C p q:=by
  have cQ:∀q q',AtB t Bs C p q->mQ t Bs C q p q' p->AtB t Bs C p q':=λq q' ⟨s,h1,h2⟩ k=>⟨s,h1,h2.step k⟩
  refine a.sound _ cQ ⟨p,ale _,.start⟩ (b7 _ cQ (λq hq=>?_) (λq hq=>absurd hq (Nc q)));cases p with
  |zero=>rw[hR.rd0 rfl]at hq;cases hq
  |succ p' =>
   obtain⟨a1,⟨s,c1,c2⟩,a3,a4⟩:=(hR.rds p' rfl q).1 hq;exact⟨s,ae,c2.step (.rd a3 a4)⟩
 have Ye:∀s q p',SM t Bs C s q p'->p'=p->ug p st3 q:=by
  intro s q p' h;induction h with
  |start=>intro _;exact a.mkd
  |@step pc a' Qr a'' h k ih =>
   intro e;subst e;have aE:=DJ hg h0 h;by_cases ea:a'=a''
   ·subst ea;exact(a.cl pc aE (ih rfl) (λh=>h)).1 _ k
   ·cases k with
    |rd h1 hc=>exact a.mono _ (b1 pc ((hR.rds a' rfl pc).2 ⟨aE,⟨s,aaK h,h⟩,h1,hc⟩))
    |Sw|Su|jmp|yM|ask=>exact absurd rfl ea
 refine⟨a.len.1.trans b8,a.len.2.1.trans b9,ao,λh=>ae,λp' hp' q=>?_,λj hj=>?_,λj hj hj2=>?_⟩
 ·have:p'=p:=by omega
  subst this;constructor
  ·intro hq;have key:ug p' st3 q/\(bH C q).op=1/\(bH C q).pass t Bs p'=true:=by
    rcases a.rdo q hq with h|h
    ·rcases b4 q h with h|⟨h1,h2⟩
     ·cases h
     ·exact⟨a.mono q h1,h2⟩
    ·exact h
   have NS:=OI q key.1;exact⟨DJ hg h0 NS.choose_spec.2,NS,key.2⟩
  ·rintro ⟨h1,⟨s,h2,h3⟩,h4,h5⟩;exact(a.cl q h1 (Ye s q p' h3 rfl) (λh=>h)).2.2 h4 h5
 ·by_cases e:j=p
  ·subst e;constructor
   ·intro h;rcases a.Aq h with h|⟨q,h1,h2⟩
    ·rcases b6 h with h|⟨q,h1,h2⟩
     ·have:=hR.new j (ale _) hp;rw[show (⟨st.ad,st.ho,[],gn⟩:sR).ho=st.ho from rfl,this]at h;cases h
     ·have NS:=OI q (a.mono q h1);exact⟨q,DJ hg h0 NS.choose_spec.2,NS,h2⟩
    ·have NS:=OI q h1;exact⟨q,DJ hg h0 NS.choose_spec.2,NS,h2⟩
   ·rintro ⟨q,h1,⟨s,h2,h3⟩,h4⟩;exact(a.cl q h1 (Ye s q j h3 rfl) (λh=>h)).2.1 h4
  ·rw[a.Nd j e,b5 j e];exact hR.QM j ae
 ·rw[a.Nd j ae,b5 j ae];exact hR.new j ae hj2
theorem xT (hg:fz t Bs C) (h0:0<C.length):∀p,p<=t.length+1->abg t Bs C p (de t Bs C p).1
 |0,_=>by
  refine⟨by simp [de],by simp [de],λm hm=>?_,λ_=>rfl,λp' h=>ae,λj h=>ae,λj _ hj=>?_⟩
  ·have hm:m∈List.replicate C.length 0:=hm;rw[(List.mem_replicate.1 hm).2];exact ale _
  ·show (List.replicate (t.length+1) false)[j]?=_;rw[List.getElem?_replicate,rY]
 |p+1,hp=>TD hg h0 ae (xT hg h0 p ae) _
theorem ED (hg:fz t Bs C) (h0:0<C.length) {e s:Nat} (he:e<=t.length) (hs:s<=e) {aR:List Int}{m:Nat}{v:Nat×List Int} (w:dt t Bs C (λa=>decide (a=e)) 0 s aR m (some v)):(rC t Bs C)[e]?=some true:=by obtain⟨q,h1,h2,h3⟩:=w.found v rfl (s:=s) .start;have h3:v.1=e:=of_decide_eq_true h3;rw[h3]at h2;exact((xT hg h0 (t.length+1) (ale _)).QM e ae).2 ⟨q,DJ hg h0 h2,⟨s,hs,h2⟩,h1⟩
theorem Ia (hg:fz t Bs C) (h0:0<C.length) {e:Nat} (he:e<=t.length) (h:∀s,s<=e->∃aR m,dt t Bs C (λa=>decide (a=e)) 0 s aR m none):(rC t Bs C)[e]?=some false:=by
 have hR:=xT hg h0 (t.length+1) (ale _);have hl:e<(rC t Bs C).length:=by unfold rC;rw[hR.lho];omega
 cases hb:(rC t Bs C)[e]? with
 |none=>rw[List.getElem?_eq_getElem hl]at hb;cases hb
 |some b =>
  cases b with
  |false=>rfl
  |true =>
   exfalso;obtain⟨q,h1,⟨s,h2,h3⟩,h4⟩:=(hR.QM e ae).1 hb;obtain⟨aR,m,w⟩:=h s h2;have:=w.Xx rfl q e h4 h3.to;simp at this
end
variable{mn:Int}{mx:Int}{l:List Re}{re:Re}
theorem WT (op mn mx k n:Int):JK op mn mx k n<=10000:=by unfold JK;omega
theorem Kk {op k n:Int} (hk:op=3->2<=k) (hn:0<=n) (h0:0<=mn) (h1:op=4->mx=-1\/1<=mx/\mn<=mx):0<=JK op mn mx k n:=by
 unfold JK;by_cases o1:op=1\/op=11
 ·rw[be o1];omega
 rw[ap o1];by_cases o3:op=3
 ·rw[be o3];have:=hk o3;omega
 rw[ap o3];by_cases o5:op=5
 ·rw[be o5];omega
 rw[ap o5];by_cases o4:op=4
 ·rw[be o4];have h1:=h1 o4;by_cases om:mx=-1
  ·rw[be om];have:0<=(mn+1)*n:=amn ae hn;omega
  ·rw[ap om];have:0<=mx*n:=amn ae hn;omega
 ·rw[ap o4];omega
def uS (re:Re):Bool:=SO re&&decide (re.op=4->re.mx=-1\/1<=re.mx/\re.mn<=re.mx)
theorem ji (re:Re):re.every uS=true->0<=re.kx/\re.kx<=10000:=by
 induction re using Re.ind with
 |h re ih =>
 intro hs;obtain⟨dL,jG⟩:=(Re.az re).1 hs;unfold uS at dL;obtain⟨dL,hs3⟩:=Bool.and_eq_true_iff.1 dL;have hs3:=of_decide_eq_true hs3;obtain⟨q1,q2,q3,q4,q5,q6,q7,q8,q9,jd⟩:=fE.1 dL;have hL:∀l:List Re,(∀k∈l,k∈re.kids)->0<=Re.gy l:=by
  intro l;induction l with
  |nil=>intro _;simp [Re.gy]
  |cons k l Gb =>
   intro hm;have h1:=(ih k (hm k aq) (jG k (hm k aq))).1;have h2:=Gb (λx hx=>hm x (by simp [hx]));simp only[Re.gy];omega
 rw[Re.I1];exact⟨Kk (λh=>by have:=q2 h;omega) (hL _ (λ_ h=>h)) q5 hs3,WT _ _ _ _ _⟩
theorem sA (h:∀k∈l,0<=k.kx/\k.kx<=10000):0<=Re.gy l/\Re.gy l<=10000*l.length:=by
 induction l with
 |nil=>simp [Re.gy]
 |cons k l ih =>
  have h1:=h k aq;have h2:=ih (λx hx=>h x (by simp [hx]));simp only[Re.gy,alg];omega
theorem OD (re:Re):re.every uS=true->aS prog 54 [lI re] (i64 re.kx):=by
 induction re using Re.ind with
 |h re ih =>
 intro hs;obtain⟨dL,jG⟩:=(Re.az re).1 hs;unfold uS at dL;obtain⟨dL,hs3⟩:=Bool.and_eq_true_iff.1 dL;have hs3:=of_decide_eq_true hs3;obtain⟨q1,q2,q3,q4,q5,q6,q7,q8,q9,jd⟩:=fE.1 dL;have hkr:∀k∈re.kids,0<=k.kx/\k.kx<=10000:=λk hk=>ji k (jG k hk);have yO:∀i,i<=re.kids.length->0<=Re.gy (re.kids.take i)/\Re.gy (re.kids.take i)<=10000*i:=λi hi=>by have:=sA (l:=re.kids.take i) (λk hk=>hkr k (alU hk));rw[alM,Nat.min_eq_left hi]at this;exact this
 refine br func54 ntmps54 results54 0 6291487 ?_;simp only[zI,simprocAttr,au re,iD,bD];refine ay (λn e s=>∃i:Nat,n=re.kids.length-i/\i<=re.kids.length/\e 1=.rf 0 0 0 0/\e 3=i64 (Re.gy (re.kids.take i))/\e 4=i64 i/\s=[aL re]) ⟨_,_,_,bO.refl,0,rfl,ae,rfl,rfl,rfl,by simp [aL,Re.ah re,iD,bD]⟩ ?_;rintro n e s ⟨i,rfl,hi,h1,h3,h4,rfl⟩;rcases alw i re.kids.length with aE|gE
 ·obtain⟨k,hk⟩:∃k,re.kids[i]?=some k:=cb aE;have hm:=List.mem_of_getElem? hk;have aH:(i:Int)<re.kids.length:=ae;have h5:=yO (i+1) ae;have h6:=yO i ae;have h7:=hkr k hm;rw[bn hk,Re.Bw]at h5;simp only[zX,simprocAttr,aL,Re.ah re,ak8,ak9,iD,bD,h1,h3,h4,i64,aH,hk];refine dk (ih k hm (jG k hm)) ?_;simp only[zX,simprocAttr,aL,Re.ah re,iD,bD,h1,h3,h4,i64,aH,hk];refine⟨re.kids.length-(i+1),_,_,ae,bO.refl,i+1,rfl,aE,?_,?_,?_,rfl⟩ <;> (try simp only[zU,Ft,qa,qe,Fp,reduceIte])
  ·exact h1
  ·rw[bK _ ae,bn hk,Re.Bw]
  ·rw[bK _ ae];rfl
 ·have eg:i=re.kids.length:=by omega
  subst eg;have aH:¬(re.kids.length:Int)<re.kids.length:=ae;have h6:=yO re.kids.length ae;rw[alr]at h3 h6;rw[Re.I1];generalize Re.gy re.kids=z at *;have w2:IntKind.i64.wrap (2*(re.kids.length:Int))=2*(re.kids.length:Int):=bK _ ae;have w3:IntKind.i64.wrap (z+2*(re.kids.length:Int))=z+2*(re.kids.length:Int):=bK _ ae;have w4:IntKind.i64.wrap (z+2*(re.kids.length:Int)-2)=z+2*(re.kids.length:Int)-2:=bK _ ae;have w5:IntKind.i64.wrap (z+2)=z+2:=bK _ ae;have IB:0<=(re.mn+1)*z/\(re.mn+1)*z<=33*z:=⟨amn ae ae,alI ae ae⟩
  have Bt:-1*z<=re.mx*z/\re.mx*z<=32*z:=⟨alI ae ae,alI ae ae⟩
  have w6:IntKind.i64.wrap (re.mn+1)=re.mn+1:=bK _ ae;have w7:IntKind.i64.wrap ((re.mn+1)*z)=(re.mn+1)*z:=bK _ ae;have w8:IntKind.i64.wrap ((re.mn+1)*z+2)=(re.mn+1)*z+2:=bK _ ae;have w9:IntKind.i64.wrap (re.mx*z)=re.mx*z:=bK _ ae;have w10:IntKind.i64.wrap (re.mx*z+re.mx)=re.mx*z+re.mx:=bK _ ae;have w11:IntKind.i64.wrap (re.mx*z+re.mx-re.mn)=re.mx*z+re.mx-re.mn:=bK _ ae;unfold JK;simp only[zX,simprocAttr,aL,Re.ah re,ak8,ak9,iD,bD,h1,h3,h4,i64,aH];by_cases o1:re.op=1
  ·simp only[zX,simprocAttr,aL,Re.ah re,ak8,ak9,iD,bD,h1,h3,h4,i64,o1,true_or,if_true]
  by_cases mZ:re.op=11
  ·simp only[zX,simprocAttr,aL,Re.ah re,ak8,ak9,iD,bD,h1,h3,h4,i64,o1,mZ,or_true,if_true]
  by_cases o3:re.op=3
  ·simp only[zX,simprocAttr,aL,Re.ah re,ak8,ak9,iD,bD,h1,h3,h4,i64,o1,mZ,o3,or_self,if_false,if_true,w2,w3,w4]
  by_cases o5:re.op=5
  ·simp only[zX,simprocAttr,aL,Re.ah re,ak8,ak9,iD,bD,h1,h3,h4,i64,o1,mZ,o3,o5,or_self,if_false,if_true,w5]
  by_cases o4:re.op=4
  ·by_cases om:re.mx=-1
   ·simp only[zX,simprocAttr,aL,Re.ah re,ak8,ak9,iD,bD,h1,h3,h4,i64,o1,mZ,o3,o5,o4,om,or_self,if_false,if_true,w6,w7,w8]
   ·simp only[zX,simprocAttr,aL,Re.ah re,ak8,ak9,iD,bD,h1,h3,h4,i64,o1,mZ,o3,o5,o4,om,or_self,if_false,if_true,w9,w10,w11]
  ·simp only[zX,simprocAttr,aL,Re.ah re,ak8,ak9,iD,bD,h1,h3,h4,i64,o1,mZ,o3,o5,o4,or_self,if_false,if_true]
def tZ (re:Re):Bool:=uS re&&decide ((re.op=0\/re.op=1\/re.op=2\/re.op=3\/re.op=4\/re.op=5\/re.op=11)/\(re.op=4\/re.op=5->re.kids.length=1)/\(re.op=0->re.kids=[]))
theorem iA:tZ re=true ↔ uS re=true/\(re.op=0\/re.op=1\/re.op=2\/re.op=3\/re.op=4\/re.op=5\/re.op=11)/\(re.op=4\/re.op=5->re.kids.length=1)/\(re.op=0->re.kids=[]):=by unfold tZ;rw[alo,decide_eq_true_eq]
theorem gU:uS re=true ↔ SO re=true/\(re.op=4->re.mx=-1\/1<=re.mx/\re.mn<=re.mx):=by unfold uS;rw[alo,decide_eq_true_eq]
theorem nP (h:re.every tZ=true):re.every uS=true:=iN (λ_ h=>(iA.1 h).1) re h
theorem Kj (h:re.every uS=true):re.every SO=true:=iN (λ_ h=>(gU.1 h).1) re h
theorem Et (h:∀k∈l,0<=k.kx) {k:Re} (hk:k∈l):k.kx<=Re.gy l:=by
 induction l with
 |nil=>cases hk
 |cons x l ih =>
  have h1:=h x aq;have h2:0<=Re.gy l:=by
   have:∀l':List Re,(∀k∈l',0<=k.kx)->0<=Re.gy l':=by
    intro l';induction l' with
    |nil=>intro _;simp [Re.gy]
    |cons y l' ih'=>intro h';have:=h' y aq;have:=ih' (λz hz=>h' z (by simp [hz]));simp only[Re.gy];omega
   exact this l (λy hy=>h y (by simp [hy]))
  simp only[Re.gy];rcases List.mem_cons.1 hk with rfl|hk
  ·omega
  ·have:=ih (λy hy=>h y (by simp [hy])) hk;omega
theorem yg {c:Int->List kz}{n:Int} (h:∀f,((c f).length:Int)=n):∀(k:Nat) (f:Int),((gD c k f).length:Int)=k*n
 |0,f=>by simp [gD]
 |k+1,f=>by
  rw[gD,ald];have h1:=yg h k f;have h2:=h (f+(gD c k f).length)
  exact ZdB
theorem uL {c:Int->List kz}{n:Int} (h:∀f,((c f).length:Int)=n) (mode fin:Int):∀(k:Nat) (f:Int),((gv c mode fin k f).length:Int)=k*(n+1)
 |0,f=>by simp [gv]
 |k+1,f=>by
  rw[gv,ald,alg];have h1:=uL h mode fin k f;have h2:=h (f+(gv c mode fin k f).length+1)
  exact ZdB
theorem Jx (h:re.kx<=9000):re.kx=(if re.op=1\/re.op=11 then 1 else if re.op=3 then Re.gy re.kids+2*(re.kids.length:Int)-2 else if re.op=5 then Re.gy re.kids+2 else if re.op=4 then (if re.mx=-1 then (re.mn+1)*Re.gy re.kids+2 else re.mx*Re.gy re.kids+re.mx-re.mn) else Re.gy re.kids):=by rw[Re.I1]at h ⊢;unfold JK at h ⊢;omega
theorem Aj (hs:re.every tZ=true) (h:re.kx<=9000) (ho:re.op≠1/\re.op≠11):Re.gy re.kids<=9000/\∀k∈re.kids,k.kx<=9000:=by
 obtain⟨dL,jG⟩:=(Re.az re).1 hs;obtain⟨hc,Aq,Xn,h0⟩:=iA.1 dL;obtain⟨hb,Sp⟩:=gU.1 hc;obtain⟨q1,q2,q3,q4,q5,q6,q7,q8,q9,jd⟩:=fE.1 hb;have hkr:∀k∈re.kids,0<=k.kx:=λk hk=>(ji k (nP (jG k hk))).1;have hz:=(sA (l:=re.kids) (λk hk=>ji k (nP (jG k hk)))).1;have hu:=Jx h;have hle:Re.gy re.kids<=9000:=by
  generalize Re.gy re.kids=z at *;rw[bm]at hu;split at hu
  ·rename_i o3;have:=q2 o3;omega
  ·split at hu
   ·omega
   ·split at hu
    ·split at hu
     ·have:1*z<=(re.mn+1)*z:=alI ae ae;omega
     ·rename_i o4 om;exact Zdo
    ·omega
 exact⟨hle,λk hk=>Int.le_trans (Et hkr hk) hle⟩
theorem Ck (h:∀k∈l,∀f,((k.code f).length:Int)=k.kx):∀f,((Re.ez l f).length:Int)=Re.gy l:=by
 induction l with
 |nil=>intro f;simp [Re.ez,Re.gy]
 |cons k l ih =>
  intro f;have h1:=h k aq f;have h2:=ih (λx hx=>h x (by simp [hx])) (f+(k.code f).length);simp only[Re.ez,Re.gy,ald];omega
theorem Lr (h:∀k∈l,∀f,((k.code f).length:Int)=k.kx):l≠[]->∀f,((Re.fg l f).length:Int)=Re.gy l+2*l.length-2:=by
 induction l with
 |nil=>intro hn;exact absurd rfl hn
 |cons k l ih =>
  intro _ f;cases l with
  |nil =>
   simp only[Re.fg,Re.gy,alg,alf];have:=h k aq f;omega
  |cons k2 l2 =>
   have h1:=h k aq (f+1);have h2:=ih (λx hx=>h x (by simp only[alT]at hx ⊢;exact .inr hx)) aq (f+(k.code (f+1)).length+2);rw[Re.fg];generalize Re.fg (k2::l2) (f+(k.code (f+1)).length+2)=z at *;simp only[Re.gy,alg,ald]at h2 ⊢
   push_cast at h2 ⊢
   omega
theorem Vj {c:Int->List kz}{n:Int} (h:∀f,((c f).length:Int)=n) (mode sz f:Int) (h0:0<=mn) (h1:mx=-1\/1<=mx/\mn<=mx) :
  ((Sd c mn mx mode sz f).length:Int)=if mx=-1 then (mn+1)*n+2 else mx*n+mx-mn:=by
 have hp:=yg h mn.toNat f;have e0:((mn.toNat:Nat):Int)=mn:=ae;rw[e0]at hp;unfold Sd;by_cases hm:mx=-1
 ·rw[be hm,be hm];have h2:=h (f+(gD c mn.toNat f).length+1);simp only[ald,alg,alf]
  exact ZdB
 ·rw[ap hm,ap hm];have h3:=uL h mode (f+sz) (mx-mn).toNat (f+(gD c mn.toNat f).length);have e1:(((mx-mn).toNat:Nat):Int)=mx-mn:=ae;rw[e1]at h3;simp only[ald]
  push_cast
  generalize gv c mode (f+sz) (mx-mn).toNat (f+(gD c mn.toNat f).length)=z at *;rw[hp,h3,Int.mul_add,Int.sub_mul];omega
theorem Hm {k:Re} (hl:l=[k]):(λi=>Re.Ej l i)=k.code:=by subst hl;funext i;simp [Re.Ej]
theorem pG (re:Re):re.every tZ=true->re.kx<=9000->∀f,((re.code f).length:Int)=re.kx:=by
 induction re using Re.ind with
 |h re ih =>
 intro hs hz f;obtain⟨dL,jG⟩:=(Re.az re).1 hs;obtain⟨hc,Aq,Xn,h0⟩:=iA.1 dL;obtain⟨hb,Sp⟩:=gU.1 hc;obtain⟨q1,q2,q3,q4,q5,q6,q7,q8,q9,jd⟩:=fE.1 hb;have hu:=Jx hz;refine Eq.trans ?_ hu.symm;rw[Re.oz];by_cases o1:re.op=1
 ·rw[be o1,be (.inl o1)];rfl
 by_cases mZ:re.op=11
 ·rw[ap o1,be mZ,be (.inr mZ)];rfl
 have hk:=Aj hs hz ⟨o1,mZ⟩;have wY:∀k∈re.kids,∀f,((k.code f).length:Int)=k.kx:=λk hm f=>ih k hm (jG k hm) (hk.2 k hm) f;have Yu:re.op=2->¬re.op=3:=ae;have o5':re.op=2->¬re.op=5:=ae;have o4':re.op=2->¬re.op=4:=ae;have o00:¬re.op=2->¬re.op=3->¬re.op=5->¬re.op=4->re.op=0:=ae;clear hu;rw[ap o1,ap mZ,ap (show ¬(re.op=1\/re.op=11) from λh=>h.elim o1 mZ)];by_cases o2:re.op=2
 ·rw[be o2,ap (Yu o2),ap (o5' o2),ap (o4' o2)];exact Ck wY f
 rw[ap o2];by_cases o3:re.op=3
 ·rw[be o3,be o3];exact Lr wY (by have:=q2 o3;intro h;rw[h]at this;simp at this) f
 rw[ap o3,ap o3];by_cases o5:re.op=5
 ·rw[be o5,be o5];obtain⟨k,dw⟩:=List.length_eq_one_iff.1 (Xn (.inr o5));have:=wY k (by rw[dw];simp) (f+1);rw[dw];simp only[Re.Ej,Re.gy,alg,ald,alf]
  push_cast;omega
 rw[ap o5,ap o5];by_cases o4:re.op=4
 ·rw[be o4,be o4];obtain⟨k,dw⟩:=List.length_eq_one_iff.1 (Xn (.inl o4));rw[Hm dw,Vj (n:=Re.gy re.kids) (λf=>by rw[dw];have:=wY k (by rw[dw];simp) f;simp only[Re.gy];omega) _ _ _ q5 (Sp o4)]
 ·rw[ap o4,ap o4,h0 (o00 o2 o3 o5 o4)];rfl
def rU (l:List Re):Re:=.mk 3 [] l 0 0 0 0 false
def jg (g:Nat) (l:List kz):VL.Obj:=⟨g,true,5,(l.map kz.cells).map λc=>c.map V.d⟩
theorem mw (l:List kz):∀e∈(l.map kz.cells).map (λc=>c.map V.d),e.length=5:=by intro e he;obtain⟨c,hc,rfl⟩:=List.mem_map.1 he;obtain⟨i,_,rfl⟩:=List.mem_map.1 hc;rfl
theorem UP (l:List kz):∀e∈l.map kz.cells,e.length=5:=by intro e he;obtain⟨i,_,rfl⟩:=List.mem_map.1 he;rfl
theorem po (l:List kz) (n:Nat) (h:l.length<=n):List.take n ((l.map kz.cells).map λc=>c.map V.d)=(l.map kz.cells).map λc=>c.map V.d:=aln (by simpa using h)
theorem PN (n g:Nat) (l:List kz):aY n (jg g l)=true:=by unfold aY jg;rw[als];intro e he;obtain⟨c,hc,rfl⟩:=List.mem_map.1 he;rw[als];intro x hx;obtain⟨d,_,rfl⟩:=List.mem_map.1 hx;rfl
theorem P9 (n:Nat) (re:Re):aY n (aL re)=true:=by simp [aY,aL,Re.ah re,ak]
def uP (re:Re):Prop:=∀f:Int,0<=f->f<=1000000000000000000-100000000*re.size->aS prog 55 [lI re,i64 f] (.d (.sl ((re.code f).map kz.cells)))
theorem XC (re k:Re) (hs:re.every tZ=true) (hz:re.kx<=8500) (o4:re.op=4) (hk:re.kids=[k]) (hc:uP k) (f:Int) (h0:0<=f) (h1:f<=1000000000000000000-100000000*re.size):lz prog 95 [lI re,i64 f] 5 ((re.code f).map kz.cells):=by
 obtain⟨dL,jG⟩:=(Re.az re).1 hs;obtain⟨xY,Aq,Xn,jX⟩:=iA.1 dL;obtain⟨hb,Sp⟩:=gU.1 xY;obtain⟨q1,q2,q3,q4,q5,q6,q7,q8,q9,jd⟩:=fE.1 hb;have hlen:=pG re hs ae f;have Vl:=(Aj hs ae ⟨ae,ae⟩).2 k (by rw[hk];simp);have wY:=pG k (jG k (by rw[hk];simp)) Vl;have hkr:=ji k (nP (jG k (by rw[hk];simp)));have gr:=OD re (nP hs);have xg:re.kids[0]?=some k:=by rw[hk];rfl
 have ej:(0:Int)<(re.kids.length:Int):=by rw[hk];simp
 have IF:k.size+1<=re.size:=Re.bZ (by rw[hk];simp);have Mm:re.code f=Sd k.code re.mn re.mx re.mode re.kx f:=by rw[Re.oz,bm,bm,bm,bm,bm,be o4,Hm hk]
 rw[Mm];have r9:∀i:Nat,((gD k.code i f).length:Int)=i*k.kx:=λi=>yg wY i f;have Ps:∀i:Nat,(i:Int)<=re.mn->((gD k.code i f).length:Int)<=300000:=λi hi=>by rw[r9];have h2:(i:Int)*k.kx<=32*9000:=Int.mul_le_mul ae Vl hkr.1 ae;omega
 unfold Sd lz;refine pE func95 rfl ntmps95 results95 rfl 0 32759 aq aq ?_;simp only[zI,simprocAttr,au re,iD,bD,o4];refine ay (λn e s=>∃(i g:Nat),n=re.mn.toNat-i/\(i:Int)<=re.mn/\e 1=i64 f/\e 2=.rf 0 0 0 0/\e 5=.so 1 g 0 (gD k.code i f).length/\e 6=i64 i/\s=[aL re,jg g (gD k.code i f)])
  ⟨_,_,_,.On (gQ 5 5 rfl),0,0,rfl,q5,rfl,rfl,rfl,rfl,by simp [aL,Re.ah re,iD,bD,o4,jg,gD]⟩ ?_
 rintro n e s ⟨i,g,rfl,hi,xD,h2,h5,h6,rfl⟩;by_cases aE:(i:Int)<re.mn
 ·have eF:=hc (f+(gD k.code i f).length) ae (by have:=Ps i hi;omega);have gY:=Ps i hi;have T1:=Ps (i+1) ae;have w1:IntKind.i64.wrap (f+((gD k.code i f).length:Int))=f+((gD k.code i f).length:Int):=bK _ ae;have Z1:=wY (f+(gD k.code i f).length);simp only[i64]at eF;simp only[zI,simprocAttr,aL,Re.ah re,ak8,ak9,iD,bD,xD,h2,h5,h6,aE,jg,xg,ej,w1];refine bB eF (by simp [ak,ak.go,au]) tY ?_;simp only[zI,simprocAttr,aL,Re.ah re,ak8,ak9,iD,bD,xD,h2,h5,h6,aE,jg];refine⟨mw _,⟨aq,ae⟩,re.mn.toNat-(i+1),_,_,ae,bO.refl,i+1,g+1,rfl,ae,?_,?_,?_,?_,?_⟩ <;> (try simp only[zU,Ft,qa,qe,Fp,reduceIte])
  ·exact xD
  ·exact h2
  ·simp only[gD,ald,ak4]
  ·rw[bK _ ae];rfl
  ·rw[po _ _ (ale _)];simp [aL,jg,Re.ah re,iD,bD,gD]
 ·have eg:i=re.mn.toNat:=by omega
  subst eg;have gY:=Ps re.mn.toNat hi;generalize gD k.code re.mn.toNat f=pre at *;by_cases hm:re.mx=-1
  ·rw[be hm];have eF:=hc (f+pre.length+1) ae ae;have Z1:=wY (f+pre.length+1);have w1:IntKind.i64.wrap (f+(pre.length:Int))=f+pre.length:=bK _ ae;have w2:IntKind.i64.wrap (f+(pre.length:Int)+1)=f+pre.length+1:=bK _ ae;generalize k.code (f+pre.length+1)=aJ at *;have w3:IntKind.i64.wrap (f+(pre.length:Int)+(aJ.length:Int))=f+pre.length+aJ.length:=bK _ ae;have w4:IntKind.i64.wrap (f+(pre.length:Int)+(aJ.length:Int)+2)=f+pre.length+aJ.length+2:=bK _ ae;simp only[i64]at eF;by_cases Jo:re.mode=1
   ·exact ZaG
   ·exact ZaG
  ·rw[ap hm];have aiw:=(Sp o4).resolve_left hm;have w1:IntKind.i64.wrap (f+re.kx)=f+re.kx:=bK _ ae;have TW:∀j:Nat,((gv k.code re.mode (f+re.kx) j (f+pre.length)).length:Int)=j*(k.kx+1):=λj=>uL wY _ _ j _;have afs:∀j:Nat,(j:Int)<=32->((gv k.code re.mode (f+re.kx) j (f+pre.length)).length:Int)<=300000:=λj hj=>by rw[TW];have h2:(j:Int)*(k.kx+1)<=32*9001:=Int.mul_le_mul hj ae ae ae;omega
   simp only[zI,simprocAttr,aL,Re.ah re,ak8,ak9,iD,bD,xD,h2,h5,h6,aE,jg,xg,ej,hm];simp only[au re,i64,iD,bD]at gr;refine dk gr ?_;simp only[zI,simprocAttr,aL,Re.ah re,ak8,ak9,iD,bD,xD,h2,h5,h6,aE,jg,w1];refine ay (λn e s=>∃(j g:Nat),n=(re.mx-re.mn).toNat-j/\(j:Int)<=re.mx-re.mn/\e 1=i64 f/\e 2=.rf 0 0 0 0/\e 5=.so 1 g 0 (pre++gv k.code re.mode (f+re.kx) j (f+pre.length)).length/\e 11=i64 (f+re.kx)/\e 12=i64 (re.mn+j) /\
     s=[aL re,jg g (pre++gv k.code re.mode (f+re.kx) j (f+pre.length))])
    ⟨_,_,_,bO.refl,0,g,rfl,ae,?_,?_,?_,rfl,?_,by simp [aL,Re.ah re,iD,bD,jg,gv]⟩ ?_ <;> (try simp only[zU,Ft,qa,qe,Fp,reduceIte])
   ·exact xD
   ·exact h2
   ·rw[h5];simp [gv]
   ·simp [i64]
   clear h5 h6 xD h2 aE;rintro n e s ⟨j,g,rfl,hj,xD,h2,h5,kr,jk,rfl⟩;by_cases aE:re.mn+(j:Int)<re.mx
   ·have hb3:=afs j ae;generalize acd:gv k.code re.mode (f+re.kx) j (f+pre.length)=post at *;have O0:(f+(pre.length:Int))+(post.length:Int)+1=f+((pre++post).length:Int)+1:=cV;have Dz:pre++gv k.code re.mode (f+re.kx) (j+1) (f+pre.length)=(pre++post)++zx re.mode (f+((pre++post).length:Int)+1) (f+re.kx)::k.code (f+((pre++post).length:Int)+1):=by rw[gv,acd,O0,alx]
    have QC:((pre++post).length:Int)=pre.length+post.length:=aq;have eF:=hc (f+(pre++post).length+1) ae ae;have Z1:=wY (f+(pre++post).length+1);have w2:IntKind.i64.wrap (f+((pre++post).length:Int))=f+(pre++post).length:=bK _ ae;have w3:IntKind.i64.wrap (f+((pre++post).length:Int)+1)=f+(pre++post).length+1:=bK _ ae;generalize k.code (f+(pre++post).length+1)=aJ at *;generalize pre++post=out at *;simp only[i64]at eF;by_cases acb:re.mode=1
    ·have Jo:=eq_true acb;exact Zas
    ·have Jo:=acb;exact Zas
   ·have Rj:j=(re.mx-re.mn).toNat:=by omega
    subst Rj;simp only[zI,simprocAttr,aL,Re.ah re,ak8,ak9,iD,bD,xD,h2,h5,kr,jk,aE,jg,tV];exact nZ (id:=1) eh eh aq
end Go.Proofs.YtjjfioalgbecmaaGreat
