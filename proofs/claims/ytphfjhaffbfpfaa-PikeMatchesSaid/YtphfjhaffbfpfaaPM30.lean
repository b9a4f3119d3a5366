/- A part of the proof (K4 K5 K6 K7 K8 K9). -/
import Derived.Test.YtphfjhaffbfpfaaPM13
import Derived.Test.YtphfjhaffbfpfaaPM14
import Derived.Test.YtphfjhaffbfpfaaPM19
set_option linter.all false
set_option maxRecDepth 100000
set_option maxHeartbeats 80000000
namespace Go.Proofs.Ytphfjhaffbfpfaa
open Go.VL Go.Proofs.Try
variable{re:Re}{l:List Re}{top:Int}{ah:Int}
def pZ (re:Re):Bool:=w7 re&&decide ((re.op=0\/re.op=1\/re.op=2\/re.op=3\/re.op=4\/re.op=5\/re.op=11)/\(re.op=4\/re.op=5->re.kids.length=1)/\(re.op=0->re.kids=[]))
theorem eY:pZ re=true ↔ w7 re=true/\(re.op=0\/re.op=1\/re.op=2\/re.op=3\/re.op=4\/re.op=5\/re.op=11)/\(re.op=4\/re.op=5->re.kids.length=1)/\(re.op=0->re.kids=[]):=by unfold pZ;rw[adD,adC]
theorem eU:w7 re=true ↔ Pr re=true/\(re.op=4->re.mx=-1\/1<=re.mx/\re.mn<=re.mx):=by unfold w7;rw[adD,adC]
theorem iB (h:re.every pZ=true):re.every w7=true:=nA (λ_ h=>(eY.1 h).1) re h
theorem NL (h:re.every w7=true):re.every Pr=true:=nA (λ_ h=>(eU.1 h).1) re h
theorem tM (h:∀k∈l,0<=k.fw) {k:Re} (hk:k∈l):k.fw<=Re.cA l:=by
 induction l with
 |nil=>cases hk
 |cons x l ih =>
  have h1:=h x (by simp);have h2:0<=Re.cA l:=by
   have:∀l':List Re,(∀k∈l',0<=k.fw)->0<=Re.cA l':=by
    intro l';induction l' with
    |nil=>intro _;simp [Re.cA]
    |cons y l' ih'=>intro h';have:=h' y (by simp);have:=ih' (λz hz=>h' z (by simp [hz]));simp only[Re.cA];omega
   exact this l (λy hy=>h y (by simp [hy]))
  simp only[Re.cA];rcases List.mem_cons.1 hk with rfl|hk
  ·omega
  ·have:=ih (λy hy=>h y (by simp [hy])) hk;omega
theorem kL {c:Int->List bR}{n:Int} (h:∀f,((c f).length:Int)=n):∀(k:Nat) (f:Int),((bZ c k f).length:Int)=k*n
 |0,f=>by simp [bZ]
 |k+1,f=>by
  rw[bZ,adx];have h1:=kL h k f;have h2:=h (f+(bZ c k f).length)
  push_cast
  rw[Int.add_mul];omega
theorem nR {c:Int->List bR}{n:Int} (h:∀f,((c f).length:Int)=n) (mode fin:Int):∀(k:Nat) (f:Int),((dU c mode fin k f).length:Int)=k*(n+1)
 |0,f=>by simp [dU]
 |k+1,f=>by
  rw[dU,adx,adA];have h1:=nR h mode fin k f;have h2:=h (f+(dU c mode fin k f).length+1)
  push_cast
  rw[Int.add_mul];omega
theorem wV (h:re.fw<=9000):re.fw=(if re.op=1\/re.op=11 then 1 else if re.op=3 then Re.cA re.kids+2*(re.kids.length:Int)-2 else if re.op=5 then Re.cA re.kids+2 else if re.op=4 then (if re.mx=-1 then (re.mn+1)*Re.cA re.kids+2 else re.mx*Re.cA re.kids+re.mx-re.mn) else Re.cA re.kids):=by rw[Re.D6]at h ⊢;unfold jv at h ⊢;omega
theorem rS (hs:re.every pZ=true) (h:re.fw<=9000) (ho:re.op≠1/\re.op≠11):Re.cA re.kids<=9000/\∀k∈re.kids,k.fw<=9000:=by
 obtain⟨eC,lP⟩:=(Re.aQ re).1 hs;obtain⟨hc,xV,Ig,h0⟩:=eY.1 eC;obtain⟨hb,AV⟩:=eU.1 hc;obtain⟨q1,q2,q3,q4,q5,q6,q7,q8,q9,SD⟩:=eW.1 hb;have Qf:∀k∈re.kids,0<=k.fw:=λk hk=>(fo k (iB (lP k hk))).1;have hz:=(iz (l:=re.kids) (λk hk=>fo k (iB (lP k hk)))).1;have hu:=wV h;have hle:Re.cA re.kids<=9000:=by
  generalize Re.cA re.kids=z at *;rw[am (by omega)]at hu;split at hu
  ·rename_i o3;have:=q2 o3;omega
  ·split at hu
   ·omega
   ·split at hu
    ·split at hu
     ·have:1*z<=(re.mn+1)*z:=aec (by omega) (by omega);omega
     ·rename_i o4 om;have hm:=(AV o4).resolve_left om;have:1*z<=re.mx*z:=aec (by omega) (by omega);omega
    ·omega
 exact⟨hle,λk hk=>Int.le_trans (tM Qf hk) hle⟩
theorem xB (h:∀k∈l,∀f,((k.code f).length:Int)=k.fw):∀f,((Re.da l f).length:Int)=Re.cA l:=by
 induction l with
 |nil=>intro f;simp [Re.da,Re.cA]
 |cons k l ih =>
  intro f;have h1:=h k (by simp) f;have h2:=ih (λx hx=>h x (by simp [hx])) (f+(k.code f).length);simp only[Re.da,Re.cA,adx];omega
theorem F9 (h:∀k∈l,∀f,((k.code f).length:Int)=k.fw):l≠[]->∀f,((Re.dA l f).length:Int)=Re.cA l+2*l.length-2:=by
 induction l with
 |nil=>intro hn;exact absurd rfl hn
 |cons k l ih =>
  intro _ f;cases l with
  |nil =>
   simp only[Re.dA,Re.cA,adA,adF];have:=h k (by simp) f;omega
  |cons k2 l2 =>
   have h1:=h k (by simp) (f+1);have h2:=ih (λx hx=>h x (by simp only[aeg]at hx ⊢;exact .inr hx)) (by simp) (f+(k.code (f+1)).length+2);rw[Re.dA];generalize Re.dA (k2::l2) (f+(k.code (f+1)).length+2)=z at *;simp only[Re.cA,adA,adx]at h2 ⊢
   push_cast at h2 ⊢
   omega
theorem Oa {c:Int->List bR}{n:Int} (h:∀f,((c f).length:Int)=n) {mn mx:Int} (mode sz f:Int) (h0:0<=mn) (h1:mx=-1\/1<=mx/\mn<=mx) :
  ((tg c mn mx mode sz f).length:Int)=if mx=-1 then (mn+1)*n+2 else mx*n+mx-mn:=by
 have hp:=kL h mn.toNat f;have e0:((mn.toNat:Nat):Int)=mn:=by omega
 rw[e0]at hp;unfold tg;by_cases hm:mx=-1
 ·rw[ap hm,ap hm];have h2:=h (f+(bZ c mn.toNat f).length+1);simp only[adx,adA,adF]
  push_cast
  rw[Int.add_mul];omega
 ·rw[am hm,am hm];have h3:=nR h mode (f+sz) (mx-mn).toNat (f+(bZ c mn.toNat f).length);have e1:(((mx-mn).toNat:Nat):Int)=mx-mn:=by omega
  rw[e1]at h3;simp only[adx]
  push_cast
  generalize dU c mode (f+sz) (mx-mn).toNat (f+(bZ c mn.toNat f).length)=z at *;rw[hp,h3,Int.mul_add,Int.sub_mul];omega
theorem oF {k:Re} (hl:l=[k]):(λi=>Re.oM l i)=k.code:=by subst hl;funext i;simp [Re.oM]
theorem jY (re:Re):re.every pZ=true->re.fw<=9000->∀f,((re.code f).length:Int)=re.fw:=by
 induction re using Re.ind with
 |h re ih =>
 intro hs hz f;obtain⟨eC,lP⟩:=(Re.aQ re).1 hs;obtain⟨hc,xV,Ig,h0⟩:=eY.1 eC;obtain⟨hb,AV⟩:=eU.1 hc;obtain⟨q1,q2,q3,q4,q5,q6,q7,q8,q9,SD⟩:=eW.1 hb;have hu:=wV hz;refine Eq.trans ?_ hu.symm;rw[Re.fe];by_cases o1:re.op=1
 ·rw[ap o1,ap (.inl o1)];rfl
 by_cases nb:re.op=11
 ·rw[am o1,ap nb,ap (.inr nb)];rfl
 have hk:=rS hs hz ⟨o1,nb⟩;have AZ:∀k∈re.kids,∀f,((k.code f).length:Int)=k.fw:=λk hm f=>ih k hm (lP k hm) (hk.2 k hm) f;have PX:re.op=2->¬re.op=3:=by omega
 have YP:re.op=2->¬re.op=5:=by omega
 have o4':re.op=2->¬re.op=4:=by omega
 have o00:¬re.op=2->¬re.op=3->¬re.op=5->¬re.op=4->re.op=0:=by omega
 clear hu;rw[am o1,am nb,am (show ¬(re.op=1\/re.op=11) from λh=>h.elim o1 nb)];by_cases o2:re.op=2
 ·rw[ap o2,am (PX o2),am (YP o2),am (o4' o2)];exact xB AZ f
 rw[am o2];by_cases o3:re.op=3
 ·rw[ap o3,ap o3];exact F9 AZ (by have:=q2 o3;intro h;rw[h]at this;simp at this) f
 rw[am o3,am o3];by_cases o5:re.op=5
 ·rw[ap o5,ap o5];obtain⟨k,iZ⟩:=List.length_eq_one_iff.1 (Ig (.inr o5));have:=AZ k (by rw[iZ];simp) (f+1);rw[iZ];simp only[Re.oM,Re.cA,adA,adx,adF]
  push_cast;omega
 rw[am o5,am o5];by_cases o4:re.op=4
 ·rw[ap o4,ap o4];obtain⟨k,iZ⟩:=List.length_eq_one_iff.1 (Ig (.inl o4));rw[oF iZ,Oa (n:=Re.cA re.kids) (λf=>by rw[iZ];have:=AZ k (by rw[iZ];simp) f;simp only[Re.cA];omega) _ _ _ q5 (AV o4)]
 ·rw[am o4,am o4,h0 (o00 o2 o3 o5 o4)];rfl
def Mw (g:Nat) (l:List bR):VL.Obj:=⟨g,true,5,(l.map bR.cells).map λc=>c.map V.d⟩
theorem Oe (l:List bR) (n:Nat) (h:l.length<=n):List.take n ((l.map bR.cells).map λc=>c.map V.d)=(l.map bR.cells).map λc=>c.map V.d:=adT (by simpa using h)
def gY (re:Re):Prop:=re.op=0\/re.op=1\/re.op=11
theorem S9 (hs:re.every pZ=true) (h:re.fw<=8500) (ho:¬gY re):Re.cA re.kids<=8500:=by
 obtain⟨eC,lP⟩:=(Re.aQ re).1 hs;obtain⟨hc,xV,Ig,h0⟩:=eY.1 eC;obtain⟨hb,AV⟩:=eU.1 hc;obtain⟨q1,q2,q3,q4,q5,q6,q7,q8,q9,SD⟩:=eW.1 hb;have hz:=(iz (l:=re.kids) (λk hk=>fo k (iB (lP k hk)))).1;have hu:=wV (re:=re) (by omega);unfold gY at ho;generalize Re.cA re.kids=z at *;rw[am (by omega)]at hu;by_cases o3:re.op=3
 ·rw[ap o3]at hu;have:=q2 o3;omega
 rw[am o3]at hu;by_cases o5:re.op=5
 ·rw[ap o5]at hu;omega
 rw[am o5]at hu;by_cases o4:re.op=4
 ·rw[ap o4]at hu;by_cases om:re.mx=-1
  ·rw[ap om]at hu;have:1*z<=(re.mn+1)*z:=aec (by omega) (by omega);omega
  ·rw[am om]at hu;have hm:=(AV o4).resolve_left om;have:1*z<=re.mx*z:=aec (by omega) (by omega);omega
 ·rw[am o4]at hu;omega
theorem FC (hs:re.every pZ=true) (h:re.fw<=8500) (ho:¬gY re):∀k∈re.kids,k.fw<=8500:=λk hk =>
 Int.le_trans (tM (λx hx=>(fo x (iB (((Re.aQ re).1 hs).2 x hx))).1) hk) (S9 hs h ho)
theorem Gi (hc:ah<=9) (hn:b9 re ah top=true) (hk:re.kids.length<=1000):w7 re=true:=by
 obtain⟨⟨a1,a2,a3,a4⟩,b,c,d,e⟩:=eT.1 hn;have cC:re.set.length<=64:=by
  split at b
  ·unfold gK at b;rw[adD]at b;exact of_decide_eq_true b.1
  ·omega
 have Tf:0<=re.n/\re.n<=9:=by
  split at d
  ·omega
  ·split at d <;> omega
 have iZ:(re.op=4\/re.op=5->1<=re.kids.length)/\(re.op=3->2<=re.kids.length):=by
  unfold cR at a3;refine⟨λh=>?_,λh=>?_⟩
  ·rw[am (by omega),ap (by omega)]at a3;simp only at a3;omega
  ·rw[ap (by omega)]at a3;simp only at a3;omega
 have hm:0<=re.mn/\re.mn<=32/\-1<=re.mx/\re.mx<=32/\(re.mx=-1\/re.mx=0\/re.mn<=re.mx)/\(re.op=4->re.mx=-1\/1<=re.mx/\re.mn<=re.mx):=by
  split at c
  ·omega
  ·omega
 exact eU.2 ⟨eW.2 ⟨iZ.1,iZ.2,hk,by omega,hm.1,hm.2.1,hm.2.2.1,hm.2.2.2.1,hm.2.2.2.2.1,by unfold kg;omega,by omega,by omega⟩,hm.2.2.2.2.2⟩
theorem DU (hc:ah<=9) (re:Re) (hw:re.whole ah top=true) (hz:re.size<=1000):re.every w7=true:=by revert hw hz;refine Re.ind (Q:=λre=>re.whole ah top=true->re.size<=1000->re.every w7=true) (λre ih hw hz=>?_) re;obtain⟨h1,h2⟩:=(Re.aQ re).1 hw;have hl:=Re.ot re.kids;have hs:=Re.size_eq re;exact(Re.aQ re).2 ⟨Gi hc h1 (by omega),λk hk=>ih k hk (h2 k hk) (by have:=Re.dr hk;omega)⟩
theorem Dh (hc:ah<=9) (re:Re) (hw:re.whole ah top=true) (hz:re.size<=1000):∀a,re.comp a=true->re.every pZ=true:=by
 revert hw hz;refine Re.ind (Q:=λre=>re.whole ah top=true->re.size<=1000->∀a,re.comp a=true->re.every pZ=true) (λre ih hw hz a ha=>?_) re;obtain⟨h1,h2⟩:=(Re.aQ re).1 hw;have hl:=Re.ot re.kids;have hs:=Re.size_eq re;have hsh:=Gi hc h1 (by omega);obtain⟨⟨a1,a2,a3,a4⟩,_⟩:=eT.1 h1;rw[Re.js]at ha;split at ha
 ·cases ha
 ·split at ha
  ·cases ha
  ·split at ha
   ·cases ha
   ·rename_i c1 c2 c3;rw[adE]at ha;refine(Re.aQ re).2 ⟨eY.2 ⟨hsh,by omega,λh=>?_,λh=>?_⟩,λk hk=>ih k hk (h2 k hk) (by have:=Re.dr hk;omega) _ (ha k hk)⟩
    ·unfold cR at a3 a4;rw[am (by omega),ap (by omega)]at a3 a4;simp only at a3 a4;omega
    ·unfold cR at a4;rw[am (by omega),am (by omega),am (by omega)]at a4;simp only at a4;exact adJ (by omega)
def Ae:bR:=⟨0,0,0,0,[]⟩
def hU (p:iF):cJ:=⟨p.re.code 0++[Ae],p.ah,p.aK⟩
end Go.Proofs.Ytphfjhaffbfpfaa
