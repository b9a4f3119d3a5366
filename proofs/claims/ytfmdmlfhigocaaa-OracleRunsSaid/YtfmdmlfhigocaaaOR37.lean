/- A part of the proof (F49 O23 O15 O16). -/
import Derived.Test.YtfmdmlfhigocaaaOR31
import Derived.Test.YtfmdmlfhigocaaaOR34
import Derived.Test.YtfmdmlfhigocaaaOR36
set_option linter.unusedSimpArgs false
set_option linter.unusedVariables false
open Nat renaming reduceShiftRight → cy, reduceMod → cJ, reduceEqDiff → dV, reduceBEq → gV
open Int renaming reduceEq → jT, reduceNatCast' → kd
set_option maxRecDepth 100000
set_option maxHeartbeats 80000000
namespace Go.Proofs.Ytfmdmlfhigocaaa
open Go.VL Go.Proofs.Try
theorem Jg (p:eJ) (g:Bool) (hg:g=(decide (0<=p.ai)&&decide (p.ai<=9))) :
  (if (p.re.vw p.ai (hU p.aF) 1 0 g).1=true then (if (p.re.vw p.ai (hU p.aF) 1 0 g).2.2=true then (0:Int) else 1) else 4)=cz p:=by
 obtain⟨a1,_,_,a4⟩:=WO p.ai (hU p.aF) p.re 1 0 g ae ae;by_cases h:(p.re.vw p.ai (hU p.aF) 1 0 g).1=true
 ·have h1:=a1.1 h;have hv:cz p=if p.ai<0\/9<p.ai\/p.re.whole p.ai (hU p.aF)=false then 1 else 0:=by unfold cz;rw[bd]
  rw[be h,hv,(a4 h).2,hg];cases hw:p.re.whole p.ai (hU p.aF)
  ·rw[ap aj,be (.inr (.inr rfl))]
  ·by_cases hc:p.ai<0\/9<p.ai
   ·rw[ap (by simp only[ajk,aji,decide_eq_true_eq];omega),tK]
   ·rw[be (by simp only[ajk,aji,decide_eq_true_eq];omega),ap (by rintro (h'|h'|h') <;> first|omega|cases h')]
 ·have hh:¬(0+(p.re.size:Int)<=256/\1+p.re.depth-1<=24):=λhh=>h (a1.2 hh);have hv:cz p=4:=by unfold cz;rw[tK]
  rw[ap h,hv]
theorem T4 (p:eJ) (hf:p.re.cN=true):aM prog 35 [.ag ((oe p).map .d)] (i64 (cz p)):=by
 have hto:=Ue p.aF;have htt:hU p.aF<=1114111:=by unfold hU;split <;> omega
 have hk:∀g:Bool,g=(decide (0<=p.ai)&&decide (p.ai<=9))->az prog 67 [.d (.el (oe p)),i64 1,.rf 0 0 0 0,.rf 1 0 0 0,.d (.el (oe p)),.rf 3 0 0 0,.rf 4 0 0 0] [pk 0,gO g,rM false p,pk (hU p.aF),jW 67]
   λv s=>v=bV (p.re.vw p.ai (hU p.aF) 1 0 g).1/\s=[pk (p.re.vw p.ai (hU p.aF) 1 0 g).2.1,gO (p.re.vw p.ai (hU p.aF) 1 0 g).2.2,rM false p,pk (hU p.aF),jW 67]:=by
  intro g _;have:=Rt p (hU p.aF) htt p.re hf 1 0 g false (.d (.el (oe p))) (.inr rfl) ae ae ae ae;exact QK (ex:=[iD p.ai,bD p.aF]) this
 have fin:=λg hg=>Jg p g hg;generalize hG:(decide (0<=p.ai)&&decide (p.ai<=9))=G at hk fin;have hk:=hk G rfl;have fin:=fin G rfl;generalize p.re.vw p.ai (hU p.aF) 1 0 G=R at hk fin;obtain⟨R1,R2,R3⟩:=R;simp only at fin;rw[<- fin];simp only[rM,dE p,iD,bD,bV,i64,aiZ,ai2]at hk hto ⊢;refine bk func35 ntmps35 results35 0 127 ?_;simp only[zI,simprocAttr,iD,bD,aiZ,ai2];by_cases g1:0<=p.ai;all_goals
  try (by_cases g2:p.ai<=9)
 all_goals
  first
   |(have hGv:G=true:=by rw[<- hG,bi g1,bi g2];rfl
     subst hGv;simp only[zI,simprocAttr,iD,bD,g1,g2])
   |(have hGv:G=false:=by rw[<- hG,bi g1,ce g2];rfl
     subst hGv;simp only[zI,simprocAttr,iD,bD,g1,g2])
   |(have hGv:G=false:=by rw[<- hG,ce g1];rfl
     subst hGv;simp only[zI,simprocAttr,iD,bD,g1])
  refine bO hto ?_;simp only[zI,simprocAttr,iD,bD];refine bL [0] rfl ?_;refine ew [1,2,0,3,4] hk aJ rfl rfl rfl (by simp [ak,ak.go]) (by simp [bc,pk,gO,rM,jW,ak,ak.go,i64,bV]) rfl ?_;cases R1
  ·simp only[zI,simprocAttr,bA,bP,bf,aS,aS.go,pk,gO,rM,dE p,jW,bV,aO,iD,bD];all_goals exact ed
  ·cases R3
   ·simp only[zI,simprocAttr,bA,bP,bf,aS,aS.go,pk,gO,rM,dE p,jW,bV,aO,iD,bD];all_goals exact ed
   ·simp only[zI,simprocAttr,bA,bP,bf,aS,aS.go,pk,gO,rM,dE p,jW,bV,aO,iD,bD];all_goals exact ed
theorem RE (re:Re) (hs:re.every l5=true):aM Try.prog 37 [kj re] (bV (nW re)):=by
 have hl:=Eg re hs;have hlr:=Dr re;have hp:=λK hk=>ew [1] (Ut re hs) aJ rfl (s:=[aI re,⟨0,true,1,[[.cl (.func 70) [] [.rf 1 0 0 0]]]⟩]) (args:=[kj re,.rf 1 0 0 0]) rfl (by rw[aq];simp [aS,aS.go,i64,bV]) (by rw[aq];simp [ak,ak.go,i64,bV]) aN (r':=bV (re.every Fs)) rfl (K:=K) hk;have w1:IntKind.i64.wrap (1+dv re)=1+dv re:=bF _ ae;unfold nW;rw[aq]at hl;simp only[aq re,i64,aI,Re.ah re,aiZ,ai2,iD,bD]at hl hp;generalize dv re=y at *;by_cases c:1+y<=8192
 ·rw[bi c,ake];refine bk Try.func37 Try.ntmps37 Try.results37 0 15 ?_;simp only[zI,simprocAttr,aq re,iD,bD,bV];refine bp hl (by simp [ak,ak.go]) rfl ?_;simp only[zI,simprocAttr,aq re,iD,bD,bV,w1,c];refine hp _ ?_;simp only[zI,simprocAttr,aq re,iD,bD,bV,w1,c];all_goals rfl
 ·rw[ce c,Bool.false_and];refine bk Try.func37 Try.ntmps37 Try.results37 0 15 ?_;simp only[zI,simprocAttr,aq re,iD,bD,bV];refine bp hl (by simp [ak,ak.go]) rfl ?_;simp only[zI,simprocAttr,aq re,iD,bD,bV,w1,c];all_goals rfl
theorem XY {re:Re}{ai top:Int} (h:bS re ai top=true) (hc:ai<=9) (hk:re.kids.length<=1000):l5 re=true:=by
 obtain⟨h1,h2,h3,h4,h5⟩:=fA.1 h;have gD:re.set.length<=64:=by
  split at h2
  ·simp only[iZ,aji,decide_eq_true_eq]at h2;exact h2.1
  ·omega
 have AX:(re.op=4\/re.op=5\/re.op=7\/re.op=8)->(cw re.op).1=1/\(cw re.op).2=1:=λo=>by rcases o with o|o|o|o <;> rw[o] <;> simp [cw]
 have Ew:re.op=3->(cw re.op).1=2:=λo=>by rw[o];simp [cw]
 refine iO.2 ⟨λo=>?_,λo=>?_,hk,?_⟩
 ·have:=AX o;omega
 ·have:=Ew o;omega
 ·by_cases o4:re.op=4
  ·rw[be o4]at h3;rw[bd,bd]at h4;refine⟨ae,ae,ae,ae,λ_=>ae,ae,ae,λh=>ae,λh=>ae,ae,ae,ae⟩
  ·rw[ap o4]at h3;refine⟨ae,ae,ae,ae,λh=>absurd h o4,?_⟩;by_cases o5:re.op=5\/re.op=6\/re.op=10
   ·rw[be o5]at h4;exact⟨ae,ae,λh=>ae,λh=>ae,ae,ae,ae⟩
   ·rw[ap o5]at h4;by_cases oh:re.op=11
    ·rw[be oh]at h4;exact⟨ae,ae,λh=>ae,λh=>ae,ae,ae,ae⟩
    ·rw[ap oh]at h4;exact⟨ae,ae,λh=>ae,λh=>ae,ae,ae,ae⟩
theorem lF {ai top:Int} (hc:ai<=9) (re:Re) (h:re.whole ai top=true) (hs:re.size<=256):re.every l5=true:=by revert h hs;refine Re.ind (Q:=λre=>re.whole ai top=true->re.size<=256->re.every l5=true) (λre ih h hs=>?_) re;obtain⟨a1,a2⟩:=(Re.av re).1 h;have:=Re.mP re.kids;have:=Re.size_eq re;exact(Re.av re).2 ⟨XY a1 hc ae,λk hk=>ih k hk (a2 k hk) (by have:=Re.bN hk;omega)⟩
def Ct (p:eJ):Int:=if cz p≠0 then cz p else if p.re.dW (List.replicate 10 false) false=false then 10 else if nW p.re=false then 4 else 0
theorem BT (p:eJ) (hf:p.re.cN=true):aM Try.prog 19 [aE p] (i64 (Ct p)):=by
 have h1:=T4 p hf;have h2:cz p=0->aM Try.prog 36 [kj p.re,kV (List.replicate 10 false),bV false] (bV (p.re.dW (List.replicate 10 false) false)):=λhv=>by obtain⟨v1,v2,v3,v4,v5⟩:=cT hv;exact T9 p.re hf (lF v4 p.re v5 v1) _ _ aj
 have h3:cz p=0->aM Try.prog 37 [kj p.re] (bV (nW p.re)):=λhv=>by obtain⟨v1,v2,v3,v4,v5⟩:=cT hv;exact RE p.re (lF v4 p.re v5 v1)
 unfold Ct;generalize cz p=vr at *;cases p with
 |mk re ai aF =>
 simp only at *;generalize re.dW (List.replicate 10 false) false=kb at *;generalize nW re=sb at *;simp only[oe,Re.ah re,aiZ,ai2,aiX,ai0,aq re,i64,iD,bD,bV,kV,List.replicate]at h1 h2 h3;by_cases hv:vr=0
 ·subst hv;have h2:=h2 rfl;have h3:=h3 rfl;rw[ap aj];cases kb with
  |false =>
   rw[be rfl];refine bk Try.func19 Try.ntmps19 Try.results19 0 15 ?_;simp only[zI,simprocAttr,aE,Re.ah,bV,iD,bD];refine bO h1 ?_;simp only[zI,simprocAttr,aE,Re.ah,bV,iD,bD,ne_eq,not_true_eq_false];refine bp h2 (by simp [ak,ak.go]) rfl ?_;simp only[zI,simprocAttr,aE,Re.ah,bV,iD,bD,ajd];all_goals rfl
  |true =>
   rw[ap aj];cases sb with
   |false =>
    rw[be rfl];refine bk Try.func19 Try.ntmps19 Try.results19 0 15 ?_;simp only[zI,simprocAttr,aE,Re.ah,bV,iD,bD];refine bO h1 ?_;simp only[zI,simprocAttr,aE,Re.ah,bV,iD,bD,ne_eq,not_true_eq_false];refine bp h2 (by simp [ak,ak.go]) rfl ?_;simp only[zI,simprocAttr,aE,Re.ah,bV,iD,bD,aje];refine bp h3 (by simp [ak,ak.go]) rfl ?_;simp only[zI,simprocAttr,aE,Re.ah,bV,iD,bD,ajd];all_goals rfl
   |true =>
    rw[ap aj];refine bk Try.func19 Try.ntmps19 Try.results19 0 15 ?_;simp only[zI,simprocAttr,aE,Re.ah,bV,iD,bD];refine bO h1 ?_;simp only[zI,simprocAttr,aE,Re.ah,bV,iD,bD,ne_eq,not_true_eq_false];refine bp h2 (by simp [ak,ak.go]) rfl ?_;simp only[zI,simprocAttr,aE,Re.ah,bV,iD,bD,aje];refine bp h3 (by simp [ak,ak.go]) rfl ?_;simp only[zI,simprocAttr,aE,Re.ah,bV,iD,bD,aje];all_goals rfl
 ·rw[be hv];refine bk Try.func19 Try.ntmps19 Try.results19 0 15 ?_;simp only[zI,simprocAttr,aE,Re.ah,bV,iD,bD];refine bO h1 ?_;simp only[zI,simprocAttr,aE,Re.ah,bV,iD,bD,ne_eq,hv,not_false_eq_true];all_goals rfl
section
variable (t:List Int) (root parts:D) (bg nb:Nat) (Bs:List (List Bool)) (b a:Nat)
theorem vl (C:List au) (tl:List VL.Obj):List.take 6 (wO t root parts bg nb Bs b a C++tl)=wO t root parts bg nb Bs b a C:=rfl
def wS (C:List au):List VL.Obj:=wO t root parts bg nb Bs b a C
theorem Qw (re:Re) (ho:re.op≠2/\re.op≠3/\re.op≠4/\re.op≠5):zH t root parts bg nb Bs b a re:=by
 obtain⟨o2,o3,o4,o5⟩:=ho;intro k C hC;have jA:=λC=>yQ t root parts bg nb Bs b a C;have BK:C.length<=1000000000000:=ae;by_cases o1:re.op=1
 ·have hc:re.emit k C=C++[sL re k]:=by rw[Re.lg,be o1]
  rw[hc];have hp:=λK hk=>wE (t:=t) (root:=root) (parts:=parts) (bg:=bg) (nb:=nb) (Bs:=Bs) (b:=b) (a:=a) (C:=C) BK (sL re k) (re.bq k) (.ag [i64 1,i64 0,i64 0,i64 0,.cl (.func 57) [] [mB b a,.rf 6 0 0 0]]) (by simp [pt,pt.go,tB,sL,au.cells,cq,o1,mB,nB,i64]) (K:=K) hk;generalize C++[sL re k]=C2 at *;simp only[Re.eK,o1,jT,or_self,or_true,true_or,if_false,if_true,iD,bD,i64]at hp;refine xp Try.func56 rfl Try.ntmps56 Try.results56 rfl 6 1278813932664544596687975450732993771492559903679 (ajc 6) (by first|decide|(simp [dJ];done)) ?_;simp only[zQ,simprocAttr,-kd,dJ,wO,Re.eK,o1,or_self,or_true,true_or,if_false,if_true];refine hp _ ?_;simp only[zQ,simprocAttr,-kd,vl,jA];rfl
 by_cases oh:re.op=11
 ·have hc:re.emit k C=C++[lR re k]:=by rw[Re.lg,bd,tK]
  rw[hc];have hp:=λK hk=>wE (t:=t) (root:=root) (parts:=parts) (bg:=bg) (nb:=nb) (Bs:=Bs) (b:=b) (a:=a) (C:=C) BK (lR re k) (re.bq k) (.ag [i64 5,i64 0,i64 0,i64 0,.cl (.func 59) [] [.rf 6 0 0 0,mB b a]]) (by simp [pt,pt.go,tB,lR,au.cells,cq,oh,mB,nB,i64]) (K:=K) hk;generalize C++[lR re k]=C2 at *;simp only[Re.eK,oh,jT,or_self,or_true,true_or,if_false,if_true,iD,bD,i64]at hp;refine xp Try.func56 rfl Try.ntmps56 Try.results56 rfl 6 1278813932664544596687975450732993771492559903679 (ajc 6) (by first|decide|(simp [dJ];done)) ?_;simp only[zQ,simprocAttr,-kd,dJ,wO,Re.eK,oh,or_self,or_true,true_or,if_false,if_true];refine hp _ ?_;simp only[zQ,simprocAttr,-kd,vl,jA];rfl
 by_cases o7:re.op=7
 ·have hc:re.emit k C=C++[lR re k]:=by rw[Re.lg,bd,tK]
  rw[hc];have hp:=λK hk=>wE (t:=t) (root:=root) (parts:=parts) (bg:=bg) (nb:=nb) (Bs:=Bs) (b:=b) (a:=a) (C:=C) BK (lR re k) (re.bq k) (.ag [i64 5,i64 0,i64 0,i64 0,.cl (.func 61) [] [mB b a,.rf 6 0 0 0]]) (by simp [pt,pt.go,tB,lR,au.cells,cq,o7,mB,nB,i64]) (K:=K) hk;generalize C++[lR re k]=C2 at *;simp only[Re.eK,o7,jT,or_self,or_true,true_or,if_false,if_true,iD,bD,i64]at hp;refine xp Try.func56 rfl Try.ntmps56 Try.results56 rfl 6 1278813932664544596687975450732993771492559903679 (ajc 6) (by first|decide|(simp [dJ];done)) ?_;simp only[zQ,simprocAttr,-kd,dJ,wO,Re.eK,o7,or_self,or_true,true_or,if_false,if_true];refine hp _ ?_;simp only[zQ,simprocAttr,-kd,vl,jA];rfl
 by_cases o8:re.op=8
 ·have hc:re.emit k C=C++[lR re k]:=by rw[Re.lg,bd,tK]
  rw[hc];have hp:=λK hk=>wE (t:=t) (root:=root) (parts:=parts) (bg:=bg) (nb:=nb) (Bs:=Bs) (b:=b) (a:=a) (C:=C) BK (lR re k) (re.bq k) (.ag [i64 5,i64 0,i64 0,i64 0,.cl (.func 61) [] [mB b a,.rf 6 0 0 0]]) (by simp [pt,pt.go,tB,lR,au.cells,cq,o8,mB,nB,i64]) (K:=K) hk;generalize C++[lR re k]=C2 at *;simp only[Re.eK,o8,jT,or_self,or_true,true_or,if_false,if_true,iD,bD,i64]at hp;refine xp Try.func56 rfl Try.ntmps56 Try.results56 rfl 6 1278813932664544596687975450732993771492559903679 (ajc 6) (by first|decide|(simp [dJ];done)) ?_;simp only[zQ,simprocAttr,-kd,dJ,wO,Re.eK,o8,or_self,or_true,true_or,if_false,if_true];refine hp _ ?_;simp only[zQ,simprocAttr,-kd,vl,jA];rfl
 have hc:re.emit k C=C:=by rw[Re.lg,ap o1,bd,ap o2,ap o3,ap o5,ap o4]
 rw[hc];refine xp Try.func56 rfl Try.ntmps56 Try.results56 rfl 6 1278813932664544596687975450732993771492559903679 (ajc 6) (by first|decide|(simp [dJ];done)) ?_;simp only[zQ,simprocAttr,-kd,dJ,wO,Re.eK,o1,o2,o3,o4,o5,o7,o8,oh];have hb:=ij 6 bg Bs;have W0:((cP C.length b a C).aw.all λe=>e.all (ak 6))=true:=ll 6 C.length b a ae C;rw[hb,W0];rfl
def pn (re:Re) (k:Nat):VL.Obj:=⟨0,true,1,[[.d (re.bq k)]]⟩
theorem Nj (re:Re) (k:Nat):dJ b a re k=(dJ b a re k).map (aS [0,1,2,3,4,5]):=by simp [dJ,aS,aS.go,mB]
theorem Rr (re:Re) (k:Nat):ak.go 6 (dJ b a re k)=true:=by simp [dJ,ak,ak.go,mB]
variable {t root parts bg nb Bs b a}
theorem rY {x:Re} (h:zH t root parts bg nb Bs b a x) (k:Nat) {C:List au} (hC:C.length+x.dc<=1000000000000) {tl:List VL.Obj}{K:V->List VL.Obj->Prop} (hk:K (.tu []) (wO t root parts bg nb Bs b a (x.emit k C)++tl)) :
  az Try.prog 56 (dJ b a x k) (wO t root parts bg nb Bs b a C++tl) K :=
 We (h k C hC) (Nj b a x k) (Rr b a x k) rfl hk
variable (t root parts bg nb Bs b a)
theorem SP (re:Re) (o:re.op=2) (hE:OH re=true) (hK:∀x∈re.kids,zH t root parts bg nb Bs b a x):zH t root parts bg nb Bs b a re:=by
 intro k C hC;obtain⟨q1,q2,q3,_⟩:=sM.1 hE;have jA:=λC=>yQ t root parts bg nb Bs b a C;have hc:re.emit k C=Re.db re.kids k C:=by rw[Re.lg,bd,bd,be o]
 have hz:re.dc=Re.cu re.kids:=by rw[Re.gj,nK,bd,be o]
 rw[hz]at hC;rw[hc];refine xp Try.func56 rfl Try.ntmps56 Try.results56 rfl 6 1278813932664544596687975450732993771492559903679 (ajc 6) (by first|decide|(simp [dJ];done)) ?_;simp only[zQ,simprocAttr,-kd,dJ,wO,Re.eK,o,or_self,if_false,Re.pO];refine ay (λn e s=>∃i:Nat,n=re.kids.length-i/\i<=re.kids.length/\e 3=.rf 4 0 0 0/\e 46=.d (.sl (Re.ej re.kids k))/\e 47=i64 re.kids.length/\e 48=i64 i/\s=wS t root parts bg nb Bs b a (Re.db (re.kids.take i) k C)++[pn re k])
  ⟨_,_,_,bJ.refl,0,rfl,ae,rfl,rfl,rfl,rfl,by simp [wS,wO,Re.db,pn,Re.eK,o,iD,bD]⟩ ?_
 rintro n e s ⟨i,rfl,hi,h3,h46,h47,Zt,rfl⟩;rcases ajr i re.kids.length with aB|iA
 ·obtain⟨x,hx⟩:∃x,re.kids[i]?=some x:=bZ aB;have hm:=ai4 hx;have aH:(i:Int)<(re.kids.length:Int):=ae;have hi0:(0:Int)<=(i:Int):=ae;have zF:=xG re.kids k i x hx;have fY:Re.cu (re.kids.take i)+x.dc<=Re.cu re.kids:=by
   have h1:re.kids=re.kids.take (i+1)++re.kids.drop (i+1):=(aku _ _).symm;have h2:Re.cu re.kids=Re.cu (re.kids.take (i+1))+Re.cu (re.kids.drop (i+1)):=by rw[<- iS,<- h1]
   rw[h2,bj hx,iS];simp only[Re.cu];omega
  have hw:=λK hk=>rY (hK x hm) (k+Re.aV (re.kids.take i)) (C:=Re.db (re.kids.take i) k C) (by rw[Re.wv];omega) (tl:=[pn re k]) (K:=K) hk;rw[<- Fb,<- bj hx]at hw;generalize Re.db (re.kids.take i) k C=C1 at *;generalize hC2:Re.db (re.kids.take (i+1)) k C=C2 at *;unfold dJ wO at hw;simp only[zQ,simprocAttr,-kd,wS,wO,h3,h46,h47,Zt,aH,hi0,aB,Re.pO,ai1,zF,aiX,ai0];refine hw _ ?_;simp only[zQ,simprocAttr,-kd,h3,h46,h47,Zt];refine⟨re.kids.length-(i+1),_,_,ae,bJ.refl,i+1,rfl,aB,?_,?_,?_,?_,by rw[hC2]⟩ <;> (try simp only[zU,gV,cy,cJ,dV,reduceIte])
  ·exact h3
  ·exact h46
  ·exact h47
  ·rw[bF _ ae];rfl
 ·have dY:i=re.kids.length:=by omega
  subst dY;rw[ajt];simp only[zQ,simprocAttr,-kd,wS,h3,h46,h47,Zt,ajZ,vl,jA];rfl
theorem Ss (re x:Re) (o:re.op=5) (hE:OH re=true) (hk:re.kids=[x]) (hK:zH t root parts bg nb Bs b a x):zH t root parts bg nb Bs b a re:=by
 intro k C hC;obtain⟨_,_,_,_,_,_,_,n0,n1⟩:=sM.1 hE;have jA:=λC=>yQ t root parts bg nb Bs b a C;have hc:re.emit k C=x.emit k (C++[jt (2*re.n-2)])++[jt (2*re.n-1)]:=by rw[Re.lg,bd,bd,bd,bd,be o,hk];rfl
 have hz:re.dc=x.dc+2:=by rw[Re.gj,nK,bd,bd,bd,be o,hk];simp [Re.cu]
 rw[hz]at hC;rw[hc];have ZL:IntKind.i64.wrap (2*re.n)=2*re.n:=bF _ ae;have wn2:IntKind.i64.wrap (2*re.n-2)=2*re.n-2:=bF _ ae;have wn3:IntKind.i64.wrap (2*re.n-1)=2*re.n-1:=bF _ ae;have Ap:=λK hk=>lk (t:=t) (root:=root) (parts:=parts) (bg:=bg) (nb:=nb) (Bs:=Bs) (b:=b) (a:=a) (C:=C) ae 4 0 0 (2*re.n-2) (tl:=[pn re k]) (K:=K) hk;have hw:=λK hk=>rY hK k (C:=C++[jt (2*re.n-2)]) (by rw[ai6,ajz];omega) (tl:=[pn re k]) (K:=K) hk;have y9:(x.emit k (C++[jt (2*re.n-2)])).length<=1000000000000:=by rw[Re.eO,ai6,ajz];omega
 have CV:=λK hk=>lk (t:=t) (root:=root) (parts:=parts) (bg:=bg) (nb:=nb) (Bs:=Bs) (b:=b) (a:=a) (C:=x.emit k (C++[jt (2*re.n-2)])) y9 4 0 0 (2*re.n-1) (tl:=[pn re k]) (K:=K) hk;rw[show (⟨4,0,0,2*re.n-2,none⟩:au)=jt (2*re.n-2) from rfl]at Ap;rw[show (⟨4,0,0,2*re.n-1,none⟩:au)=jt (2*re.n-1) from rfl]at CV;generalize x.emit k (C++[jt (2*re.n-2)])++[jt (2*re.n-1)]=C3 at *;generalize x.emit k (C++[jt (2*re.n-2)])=C2 at *;generalize C++[jt (2*re.n-2)]=C1 at *;have Ln:Re.ej re.kids k=[[x.bq k]]:=by rw[hk];rfl
 have dP:re.bq k=.el [iD 5,.sl (re.set.map aU),.sl (re.kids.map Re.cells),iD re.mn,iD re.mx,iD re.mode,iD re.n,bD re.neg,.sl [[x.bq k]],iD k]:=by rw[Re.eK,bd,aj5,Ln,o]
 have hq:([[x.bq k]]:List (List D))[0]?=some [x.bq k]:=rfl;unfold pn at Ap CV hw;unfold dJ at hw ⊢;rw[dP]at Ap CV hw ⊢;generalize x.bq k=xd at *;simp only[iD,bD,i64]at Ap CV hw;refine xp Try.func56 rfl Try.ntmps56 Try.results56 rfl 6 1278813932664544596687975450732993771492559903679 (ajc 6) (by first|decide|(simp [dJ];done)) ?_;simp only[zQ,simprocAttr,-kd,wO,ai8,ai9,ai7];refine aA mix [9] [] aN ?_;simp only[zQ,simprocAttr,-kd,ZL,wn2];refine fG (Ap _ ⟨rfl,rfl⟩) ?_;simp only[zQ,simprocAttr,-kd,wO,aiX,ai0];refine aA mix [7] [] aN ?_;simp only[zQ,simprocAttr,-kd,ai8,ai9,ai7,hq];refine⟨aJ,?_⟩;refine fG (hw _ ⟨rfl,rfl⟩) ?_;simp only[zQ,simprocAttr,-kd,wO,aiX,ai0];refine aA mix [9] [] aN ?_;simp only[zQ,simprocAttr,-kd,ZL,wn3];refine fG (CV _ ⟨rfl,rfl⟩) ?_;simp only[zQ,simprocAttr,-kd,vl,jA];rfl
end
section
variable (t:List Int) (root parts:D) (bg nb:Nat) (Bs:List (List Bool)) (b a:Nat)
omit t root parts bg nb Bs b a in
theorem Pv:∀(l:List Re) (k:Nat) (C:List au) (J:List Nat),∀x∈(jx l k C J).2,x∈J\/x<(jx l k C J).1.length
 |[],_,_,_,x,h=>.inl h
 |y::l,k,C,J,x,h=>by
  have e:jx (y::l) k C J=jx l (k+y.looks) (x9 (y.emit k (C++[cX 0 0])++[ku 0]) C.length ((C.length:Int)+1) (((y.emit k (C++[cX 0 0])).length:Int)+1)) (J++[(y.emit k (C++[cX 0 0])).length]):=rfl;rw[e]at h ⊢;have hl:=(zl l (k+y.looks) (x9 (y.emit k (C++[cX 0 0])++[ku 0]) C.length ((C.length:Int)+1) (((y.emit k (C++[cX 0 0])).length:Int)+1)) (J++[(y.emit k (C++[cX 0 0])).length])).1;rcases Pv l _ _ _ x h with h|h
  ·rcases List.mem_append.1 h with h|h
   ·exact .inl h
   ·rw[List.mem_singleton]at h;rw[oI,ai6,ajz]at hl;exact .inr ae
  ·exact .inr h
def aOS (C:List au) (re:Re) (k g:Nat) (J:List Nat):List VL.Obj:=wO t root parts bg nb Bs b a C++[pn re k,bw g J]
def Ez (C:List au) (re:Re) (k g:Nat) (J:List Nat):List VL.Obj:=wO t root parts bg nb Bs b a C++[pn re k,bw g J]
theorem St (re:Re) (l:List Re) (z:Re) (o:re.op=3) (hE:OH re=true) (hk:re.kids=l++[z]) (hK:∀x∈re.kids,zH t root parts bg nb Bs b a x):zH t root parts bg nb Bs b a re:=by
 intro k C hC;obtain⟨_,_,q3,_⟩:=sM.1 hE;have jA:=λC=>yQ t root parts bg nb Bs b a C;have hc:re.emit k C=(jx l k C []).2.foldl (xO (z.emit (k+Re.aV l) (jx l k C []).1).length) (z.emit (k+Re.aV l) (jx l k C []).1):=by rw[Re.lg,bd,bd,bd,be o,hk,JD]
 have uu:re.kids.length=l.length+1:=by rw[hk];simp
 have hz:re.dc=Re.cu l+z.dc+2*l.length:=by rw[Re.gj,nK,bd,bd,be o,uu,hk,iS];simp [Re.cu]
 rw[hz]at hC;rw[hc];have Zz:∀(i:Nat) (x:Re),re.kids[i]?=some x->(Re.ej re.kids k)[i]?=some [x.bq (k+Re.aV (re.kids.take i))]:=λi x h=>xG re.kids k i x h;have Ln:=Re.pO re.kids k;have dP:re.bq k=.el [iD 3,.sl (re.set.map aU),.sl (re.kids.map Re.cells),iD re.mn,iD re.mx,iD re.mode,iD re.n,bD re.neg,.sl (Re.ej re.kids k),iD k]:=by rw[Re.eK,bd,aj5,o]
 have hw0:IntKind.i64.wrap ((re.kids.length:Int)-1)=(l.length:Int):=by rw[uu];rw[bF _ ae];omega
 have oM:pn re k=⟨0,true,1,[[.d (re.bq k)]]⟩:=rfl;unfold dJ;rw[dP]at oM ⊢;generalize hND:Re.ej re.kids k=ND at *;simp only[iD,bD]at oM;have tN:(l.length:Int)<=(ND.length:Int):=ae;have y9:l.length<=ND.length:=ae;have tL:(0:Int)<=(l.length:Int):=ae;refine xp Try.func56 rfl Try.ntmps56 Try.results56 rfl 6 1278813932664544596687975450732993771492559903679 (ajc 6) (by first|decide|(simp [dJ];done)) ?_;simp only[zQ,simprocAttr,wO,Ln,hw0,tL,tN,y9,ai1,aj3];refine⟨ae,?_⟩;refine ay (λn e s=>∃(i g:Nat),n=l.length-i/\i<=l.length/\e 1=.rf 3 0 0 0/\e 3=.rf 4 0 0 0/\e 4=.rf 2 0 0 0/\e 5=.rf 6 0 0 0/\e 8=.so 7 g 0 i/\e 9=i64 l.length/\e 69=.d (.sl (ND.take l.length))/\e 70=i64 l.length/\e 71=i64 i/\s=aOS t root parts bg nb Bs b a (jx (l.take i) k C []).1 re k g (jx (l.take i) k C []).2)
  ⟨_,_,_,.MX (fQ 8 1 rfl),0,0,rfl,ae,rfl,rfl,rfl,rfl,rfl,rfl,rfl,?_,rfl,by rw[aOS,oM];rfl⟩ ?_
 ·(try simp only[zU,gV,cy,cJ,dV,reduceIte])
  have:min ((l.length:Int)-0).toNat re.kids.length=l.length:=ae;rw[this];rfl
 rintro n e s ⟨i,g,rfl,hi,h1,h3,h4,h5,h8,h9,UN,UT,Va,rfl⟩;have ZH:=(zl (l.take i) k C []).2;have ZO:=(zl (l.take i) k C []).1;rw[ai9,ai7]at ZH;rcases ajr i l.length with aB|iA
 ·obtain⟨x,hx⟩:∃x,l[i]?=some x:=bZ aB;have hxk:re.kids[i]?=some x:=by rw[hk,ajj aB];exact hx
  have hm:x∈re.kids:=ai4 hxk;have aH:(i:Int)<(l.length:Int):=ae;have hi0:(0:Int)<=(i:Int):=ae;have zF:=Zz i x hxk;have IV:re.kids.take i=l.take i:=by rw[hk,List.take_append_of_le_length ae]
  rw[IV]at zF;have adg:(ND.take l.length)[i]?=some [x.bq (k+Re.aV (l.take i))]:=by rw[List.getElem?_take_of_lt aB];exact zF
  have fY:Re.cu (l.take i)+x.dc<=Re.cu l:=by
   have h1:l=l.take (i+1)++l.drop (i+1):=(aku _ _).symm;have h2:Re.cu l=Re.cu (l.take (i+1))+Re.cu (l.drop (i+1)):=by rw[<- iS,<- h1]
   rw[h2,bj hx,iS];simp only[Re.cu];omega
  have Ee:=Gm (l.take i) x k C [];rw[<- bj hx]at Ee;rw[aj3]at ZO ZH;rw[show aOS t root parts bg nb Bs b a (jx (l.take i) k C []).1 re k g (jx (l.take i) k C []).2=wO t root parts bg nb Bs b a (jx (l.take i) k C []).1++[pn re k,bw g (jx (l.take i) k C []).2] from rfl];generalize aej:jx (l.take (i+1)) k C []=ST2 at *;generalize jx (l.take i) k C []=ST at *;obtain⟨C1,J⟩:=ST;simp only at ZO ZH ⊢;simp only[jx]at Ee;have hw:=λK hk=>rY (hK x hm) (k+Re.aV (l.take i)) (C:=C1++[cX 0 0]) (by rw[ai6,ajz];omega) (tl:=[pn re k,bw g J]) (K:=K) hk;have Ap:=λK hk=>lk (t:=t) (root:=root) (parts:=parts) (bg:=bg) (nb:=nb) (Bs:=Bs) (b:=b) (a:=a) (C:=C1) ae 2 0 0 0 (tl:=[pn re k,bw g J]) (K:=K) hk;have V7:(x.emit (k+Re.aV (l.take i)) (C1++[cX 0 0])).length=C1.length+1+x.dc:=by rw[Re.eO,ai6,ajz]
  have CV:=λK hk=>lk (t:=t) (root:=root) (parts:=parts) (bg:=bg) (nb:=nb) (Bs:=Bs) (b:=b) (a:=a) (C:=x.emit (k+Re.aV (l.take i)) (C1++[cX 0 0])) ae 3 0 0 0 (tl:=[pn re k,bw g J]) (K:=K) hk;rw[show (⟨2,0,0,0,none⟩:au)=cX 0 0 from rfl]at Ap;rw[show (⟨3,0,0,0,none⟩:au)=ku 0 from rfl]at CV;unfold dJ at hw;generalize x.bq (k+Re.aV (l.take i))=xd at *;generalize x.emit (k+Re.aV (l.take i)) (C1++[cX 0 0])=C3 at *;have aaC:(C3++[ku 0]).length=C3.length+1:=aj;generalize C3++[ku 0]=C4 at *;generalize C1++[cX 0 0]=C2 at *;have w1:IntKind.i64.wrap ((C1.length:Int)+1)=(C1.length:Int)+1:=bF _ ae;obtain⟨y,hy⟩:∃y,C4[C1.length]?=some y:=bZ;have c0:(0:Int)<=(C1.length:Int):=ae;have c1:(C1.length:Int)<(C4.length:Int):=ae;have c2:C1.length<C4.length:=ae;have g1:(cP C4.length b a C4).g=C4.length:=rfl;have g2:(cP C4.length b a C4).sz=5:=rfl;have g3:(cP C4.length b a C4).aw=C4.map (au.cells b a):=rfl;have g4:(cP C4.length b a C4).live=true:=rfl;simp only[zQ,simprocAttr,wO,h1,h3,h4,h5,h8,h9,UN,UT,Va,aH,hi0,aB,ai1,adg,aj3,Nat.min_eq_left y9,aiX,ai0];refine Ap _ ?_;simp only[zQ,simprocAttr,wO,h1,h3,h4,h5,h8,h9,UN,UT,Va,aiX,ai0];refine hw _ ?_;simp only[zQ,simprocAttr,wO,h1,h3,h4,h5,h8,h9,UN,UT,Va,aiX,ai0];refine CV _ ?_;simp only[zQ,simprocAttr,wO,bw,h1,h3,h4,h5,h8,h9,UN,UT,Va,aiX,ai0,aiW];refine⟨λe he=>by rw[List.mem_singleton.1 he];rfl,⟨ae,ae⟩,?_⟩;refine aA mix [] [(8,[5],[]),(9,[5],[]),(10,[5],[5]),(11,[5],[]),(12,[5],[]),(13,[5],[5])] aN ?_;simp only[zQ,simprocAttr,h1,h3,h4,h5,h8,h9,UN,UT,Va,cf,aQ,pN,c0,c1,c2,g1,g2,g3,g4,hy,w1,ai1,ai7,aiW,aiY,ai3,au.cells];have e1:∀v,((C4.map (au.cells b a)).set C1.length v)[C1.length]?=some v:=λv=>ajm (by simpa using c2);have e2:((C4.map (au.cells b a)).set C1.length [V.d (D.sc (Value.int IntKind.i64 y.op)),V.d (D.sc (Value.int IntKind.i64 ((C1.length:Int)+1))),V.d (D.sc (Value.int IntKind.i64 y.y)),V.d (D.sc (Value.int IntKind.i64 y.n)),cq b a y.node]).set C1.length [V.d (D.sc (Value.int IntKind.i64 y.op)),V.d (D.sc (Value.int IntKind.i64 ((C1.length:Int)+1))),V.d (D.sc (Value.int IntKind.i64 C4.length)),V.d (D.sc (Value.int IntKind.i64 y.n)),cq b a y.node]=(x9 C4 C1.length ((C1.length:Int)+1) C4.length).map (au.cells b a):=by
   have Y6:bz C4 C1.length=y:=by unfold bz;rw[aja,hy];rfl
   rw[List.set_set,x9,akv,Y6];rfl
  have e3:List.take i (J.map λ(x:Nat)=>[V.d (D.sc (Value.int IntKind.i64 (x:Int)))])=J.map λ(x:Nat)=>[V.d (D.sc (Value.int IntKind.i64 (x:Int)))]:=ajb (by rw[aiW];omega);simp only[e1,aj1,akc,List.drop_succ_cons,ajQ,aiX,ai0,e2,e3];refine⟨aj,l.length-(i+1),_,_,ae,bJ.refl,i+1,g+1,rfl,aB,?_,?_,?_,?_,?_,?_,?_,?_,?_,?_⟩ <;> (try simp only[zU,gV,cy,cJ,dV,reduceIte])
  ·exact h1
  ·exact h3
  ·exact h4
  ·exact h5
  ·exact h9
  ·exact UN
  ·exact UT
  ·rw[bF _ ae];rfl
  ·rw[aej,Ee,aaC];simp only[aOS,wO,bw,pN,oI,aaC,akf,aiZ,ai2,aiX,ai0,i64];rfl
 ·have dY:i=l.length:=by omega
  subst dY;have hzk:re.kids[l.length]?=some z:=by rw[hk];simp
  have hm:z∈re.kids:=ai4 hzk;have zF:=Zz l.length z hzk;have IV:re.kids.take l.length=l:=by rw[hk];simp
  rw[IV]at zF;have iU:=Pv l k C [];rw[ajt]at *;rw[show aOS t root parts bg nb Bs b a (jx l k C []).1 re k g (jx l k C []).2=wO t root parts bg nb Bs b a (jx l k C []).1++[pn re k,bw g (jx l k C []).2] from rfl];generalize jx l k C []=ST at *;obtain⟨C1,J⟩:=ST;simp only at ZO ZH iU ⊢;have hw:=λK hk=>rY (hK z hm) (k+Re.aV l) (C:=C1) ae (tl:=[pn re k,bw g J]) (K:=K) hk;have tO:=Re.eO z (k+Re.aV l) C1;unfold dJ at hw;generalize z.bq (k+Re.aV l)=xd at *;generalize z.emit (k+Re.aV l) C1=C2 at *;have hJb:∀x∈J,x<C2.length:=λx hx=>by have:=(iU x hx).resolve_left aj;omega
  have V7:(l.length:Int)<(ND.length:Int):=ae;have hl4:l.length<ND.length:=ae;rw[oM]at hw ⊢;simp only[zQ,simprocAttr,wO,h1,h3,h4,h5,h8,h9,UN,UT,Va,ajZ,aiX,ai0];refine aA mix [8] [] aN ?_;simp only[zQ,simprocAttr,wO,h1,h3,h4,h5,h8,h9,UN,UT,Va,tL,Ln,V7,hl4,ai1,zF,aiX,ai0];refine⟨ae,?_⟩;refine fG (hw _ ⟨rfl,rfl⟩) ?_;clear hw iU;rw[<- oM];have gR:(Ez t root parts bg nb Bs b a ((J.take 0).foldl (xO C2.length) C2) re k g J)=wO t root parts bg nb Bs b a C2++[pn re k,bw g J]:=rfl;simp only[zQ,simprocAttr,h1,h3,h4,h5,h8,h9,UN,UT,Va];refine ay (λn e s=>∃j:Nat,n=l.length-j/\j<=l.length/\e 4=.rf 2 0 0 0/\e 109=.so 7 g 0 l.length/\e 110=i64 l.length/\e 111=i64 j/\s=Ez t root parts bg nb Bs b a ((J.take j).foldl (xO C2.length) C2) re k g J)
   ⟨_,_,_,bJ.refl,0,rfl,ae,by first|exact h4|(simp only[zU,gV,cy,cJ,dV,reduceIte];done)|(simp only[zU,gV,cy,cJ,dV,reduceIte];exact h4),by first|exact h8|(simp only[zU,gV,cy,cJ,dV,reduceIte];done)|(simp only[zU,gV,cy,cJ,dV,reduceIte];exact h8),rfl,rfl,rfl⟩ ?_
  clear h1 h3 h4 h5 h8 h9 UN UT Va;rintro n e s ⟨j,rfl,hj,h4,Zb,XL,abH,rfl⟩;have hDl:((J.take j).foldl (xO C2.length) C2).length=C2.length:=CG _ _ _;rcases ajr j l.length with aB|iA
  ·obtain⟨x,hx⟩:∃x,J[j]?=some x:=bZ;have hxb:=hJb x (ai4 hx);have aH:(j:Int)<(l.length:Int):=ae;have UE:(0:Int)<=(j:Int):=ae;have Ee:(J.take (j+1)).foldl (xO C2.length) C2=xO C2.length ((J.take j).foldl (xO C2.length) C2) x:=by rw[bj hx,List.foldl_append];rfl
   rw[show Ez t root parts bg nb Bs b a ((J.take j).foldl (xO C2.length) C2) re k g J=wO t root parts bg nb Bs b a ((J.take j).foldl (xO C2.length) C2)++[pn re k,bw g J] from rfl];generalize (J.take j).foldl (xO C2.length) C2=Dc at *;have g1:(cP Dc.length b a Dc).g=Dc.length:=rfl;have g2:(cP Dc.length b a Dc).sz=5:=rfl;have g3:(cP Dc.length b a Dc).aw=Dc.map (au.cells b a):=rfl;have g4:(cP Dc.length b a Dc).live=true:=rfl;obtain⟨y,hy⟩:∃y,Dc[x]?=some y:=bZ;have U7:x<Dc.length:=ae;have x4:(x:Int)<(Dc.length:Int):=ae;have U6:(0:Int)<=(x:Int):=ae;have Y6:bz Dc x=y:=by unfold bz;rw[aja,hy];rfl
   have e2:(Dc.map (au.cells b a)).set x [V.d (D.sc (Value.int IntKind.i64 y.op)),V.d (D.sc (Value.int IntKind.i64 Dc.length)),V.d (D.sc (Value.int IntKind.i64 y.y)),V.d (D.sc (Value.int IntKind.i64 y.n)),cq b a y.node]=(xO C2.length Dc x).map (au.cells b a):=by rw[xO,x9,akv,Y6,hDl];rfl
   have ad1:j<J.length:=ae;simp only[zQ,simprocAttr,wO,bw,pN,h4,Zb,XL,abH,aH,UE,ad1,aB,hx,U7,x4,U6,hy,g1,g2,g3,g4,ai1,ai7,aiW,aiY,ai3,au.cells,e2,aiX,ai0];refine⟨l.length-(j+1),_,_,ae,bJ.refl,j+1,rfl,aB,?_,?_,?_,?_,?_⟩ <;> (try simp only[zU,gV,cy,cJ,dV,reduceIte])
   ·exact h4
   ·exact Zb
   ·exact XL
   ·rw[bF _ ae];rfl
   ·rw[Ee,<- hDl];simp only[Ez,wO,bw,pN,cP,IZ,aiX,ai0,i64]
  ·have NI:j=l.length:=by omega
   subst NI;rw[ajb ae];simp only[zQ,simprocAttr,h4,Zb,XL,abH,ajZ,Ez,vl,jA];rfl
end
end Go.Proofs.Ytfmdmlfhigocaaa
