/- A part of the proof (K3 K4 K5 K6). -/
import Derived.Test.YtjjfioalgbecmaaGreatOQ32
set_option linter.unusedSimpArgs false
set_option linter.unusedVariables false
set_option maxRecDepth 100000
set_option maxHeartbeats 80000000
namespace Go.Proofs.YtjjfioalgbecmaaGreat
open Go.VL Go.Proofs.Tryz
variable{mn:Int}{mx:Int}{l:List Re}{re:Re}
theorem VR (op mn mx k n:Int):kD op mn mx k n<=10000:=by unfold kD;omega
theorem AA {op k n:Int} (hk:op=3->2<=k) (hn:0<=n) (h0:0<=mn) (h1:op=4->mx=-1\/1<=mx/\mn<=mx):0<=kD op mn mx k n:=by
 unfold kD;by_cases o1:op=1\/op=11
 ·rw[be o1];omega
 rw[ap o1];by_cases o3:op=3
 ·rw[be o3];have:=hk o3;omega
 rw[ap o3];by_cases o5:op=5
 ·rw[be o5];omega
 rw[ap o5];by_cases o4:op=4
 ·rw[be o4];have h1:=h1 o4;by_cases om:mx=-1
  ·rw[be om];have:0<=(mn+1)*n:=ak4 ae hn;omega
  ·rw[ap om];have:0<=mx*n:=ak4 ae hn;omega
 ·rw[ap o4];omega
def zK (re:Re):Bool:=RG re&&decide (re.op=4->re.mx=-1\/1<=re.mx/\re.mn<=re.mx)
theorem fw (re:Re):re.every zK=true->0<=re.fh/\re.fh<=10000:=by
 induction re using Re.ind with
 |h re ih =>
 intro hs;obtain⟨dM,jA⟩:=(Re.aD re).1 hs;unfold zK at dM;obtain⟨dM,hs3⟩:=Bool.and_eq_true_iff.1 dM;have hs3:=of_decide_eq_true hs3;obtain⟨q1,q2,q3,q4,q5,q6,q7,q8,q9,jc⟩:=fU.1 dM;have hL:∀l:List Re,(∀k∈l,k∈re.kids)->0<=Re.cF l:=by
  intro l;induction l with
  |nil=>intro _;simp [Re.cF]
  |cons k l CG =>
   intro hm;have h1:=(ih k (hm k ak) (jA k (hm k ak))).1;have h2:=CG (λx hx=>hm x (by simp [hx]));simp only[Re.cF];omega
 rw[Re.HN];exact⟨AA (λh=>by have:=q2 h;omega) (hL _ (λ_ h=>h)) q5 hs3,VR _ _ _ _ _⟩
theorem jl (h:∀k∈l,0<=k.fh/\k.fh<=10000):0<=Re.cF l/\Re.cF l<=10000*l.length:=by
 induction l with
 |nil=>simp [Re.cF]
 |cons k l ih =>
  have h1:=h k ak;have h2:=ih (λx hx=>h x (by simp [hx]));simp only[Re.cF,ajW];omega
def ll (re:Re):Bool:=zK re&&decide ((re.op=0\/re.op=1\/re.op=2\/re.op=3\/re.op=4\/re.op=5\/re.op=11)/\(re.op=4\/re.op=5->re.kids.length=1)/\(re.op=0->re.kids=[]))
theorem gY:ll re=true ↔ zK re=true/\(re.op=0\/re.op=1\/re.op=2\/re.op=3\/re.op=4\/re.op=5\/re.op=11)/\(re.op=4\/re.op=5->re.kids.length=1)/\(re.op=0->re.kids=[]):=by unfold ll;rw[aj5,decide_eq_true_eq]
theorem ga:zK re=true ↔ RG re=true/\(re.op=4->re.mx=-1\/1<=re.mx/\re.mn<=re.mx):=by unfold zK;rw[aj5,decide_eq_true_eq]
theorem jh (h:re.every ll=true):re.every zK=true:=iq (λ_ h=>(gY.1 h).1) re h
theorem RX (h:re.every zK=true):re.every RG=true:=iq (λ_ h=>(ga.1 h).1) re h
theorem wQ (h:∀k∈l,0<=k.fh) {k:Re} (hk:k∈l):k.fh<=Re.cF l:=by
 induction l with
 |nil=>cases hk
 |cons x l ih =>
  have h1:=h x ak;have h2:0<=Re.cF l:=by
   have:∀l':List Re,(∀k∈l',0<=k.fh)->0<=Re.cF l':=by
    intro l';induction l' with
    |nil=>intro _;simp [Re.cF]
    |cons y l' ih'=>intro h';have:=h' y ak;have:=ih' (λz hz=>h' z (by simp [hz]));simp only[Re.cF];omega
   exact this l (λy hy=>h y (by simp [hy]))
  simp only[Re.cF];rcases List.mem_cons.1 hk with rfl|hk
  ·omega
  ·have:=ih (λy hy=>h y (by simp [hy])) hk;omega
theorem wU {c:Int->List bM}{n:Int} (h:∀f,((c f).length:Int)=n):∀(k:Nat) (f:Int),((bB c k f).length:Int)=k*n
 |0,f=>by simp [bB]
 |k+1,f=>by
  rw[bB,ajQ];have h1:=wU h k f;have h2:=h (f+(bB c k f).length)
  push_cast
  rw[Int.add_mul];omega
theorem tp {c:Int->List bM}{n:Int} (h:∀f,((c f).length:Int)=n) (mode fin:Int):∀(k:Nat) (f:Int),((c8 c mode fin k f).length:Int)=k*(n+1)
 |0,f=>by simp [c8]
 |k+1,f=>by
  rw[c8,ajQ,ajW];have h1:=tp h mode fin k f;have h2:=h (f+(c8 c mode fin k f).length+1)
  push_cast
  rw[Int.add_mul];omega
theorem z8 (h:re.fh<=9000):re.fh=(if re.op=1\/re.op=11 then 1 else if re.op=3 then Re.cF re.kids+2*(re.kids.length:Int)-2 else if re.op=5 then Re.cF re.kids+2 else if re.op=4 then (if re.mx=-1 then (re.mn+1)*Re.cF re.kids+2 else re.mx*Re.cF re.kids+re.mx-re.mn) else Re.cF re.kids):=by rw[Re.HN]at h ⊢;unfold kD at h ⊢;omega
theorem vu (hs:re.every ll=true) (h:re.fh<=9000) (ho:re.op≠1/\re.op≠11):Re.cF re.kids<=9000/\∀k∈re.kids,k.fh<=9000:=by
 obtain⟨dM,jA⟩:=(Re.aD re).1 hs;obtain⟨hc,wH,IL,h0⟩:=gY.1 dM;obtain⟨hb,Oc⟩:=ga.1 hc;obtain⟨q1,q2,q3,q4,q5,q6,q7,q8,q9,jc⟩:=fU.1 hb;have VF:∀k∈re.kids,0<=k.fh:=λk hk=>(fw k (jh (jA k hk))).1;have hz:=(jl (l:=re.kids) (λk hk=>fw k (jh (jA k hk)))).1;have hu:=z8 h;have hle:Re.cF re.kids<=9000:=by
  generalize Re.cF re.kids=z at *;rw[bd]at hu;split at hu
  ·rename_i o3;have:=q2 o3;omega
  ·split at hu
   ·omega
   ·split at hu
    ·split at hu
     ·have:1*z<=(re.mn+1)*z:=akp ae ae;omega
     ·rename_i o4 om;have hm:=(Oc o4).resolve_left om;have:1*z<=re.mx*z:=akp ae ae;omega
    ·omega
 exact⟨hle,λk hk=>ald (wQ VF hk) hle⟩
theorem Bc (h:∀k∈l,∀f,((k.code f).length:Int)=k.fh):∀f,((Re.da l f).length:Int)=Re.cF l:=by
 induction l with
 |nil=>intro f;simp [Re.da,Re.cF]
 |cons k l ih =>
  intro f;have h1:=h k ak f;have h2:=ih (λx hx=>h x (by simp [hx])) (f+(k.code f).length);simp only[Re.da,Re.cF,ajQ];omega
theorem Kr (h:∀k∈l,∀f,((k.code f).length:Int)=k.fh):l≠[]->∀f,((Re.dJ l f).length:Int)=Re.cF l+2*l.length-2:=by
 induction l with
 |nil=>intro hn;exact absurd rfl hn
 |cons k l ih =>
  intro _ f;cases l with
  |nil =>
   simp only[Re.dJ,Re.cF,ajW,ajX];have:=h k ak f;omega
  |cons k2 l2 =>
   have h1:=h k ak (f+1);have h2:=ih (λx hx=>h x (by simp only[akD]at hx ⊢;exact .inr hx)) ak (f+(k.code (f+1)).length+2);rw[Re.dJ];generalize Re.dJ (k2::l2) (f+(k.code (f+1)).length+2)=z at *;simp only[Re.cF,ajW,ajQ]at h2 ⊢
   push_cast at h2 ⊢
   omega
theorem Uf {c:Int->List bM}{n:Int} (h:∀f,((c f).length:Int)=n) (mode sz f:Int) (h0:0<=mn) (h1:mx=-1\/1<=mx/\mn<=mx) :
  ((Ai c mn mx mode sz f).length:Int)=if mx=-1 then (mn+1)*n+2 else mx*n+mx-mn:=by
 have hp:=wU h mn.toNat f;have e0:((mn.toNat:Nat):Int)=mn:=ae;rw[e0]at hp;unfold Ai;by_cases hm:mx=-1
 ·rw[be hm,be hm];have h2:=h (f+(bB c mn.toNat f).length+1);simp only[ajQ,ajW,ajX]
  push_cast
  rw[Int.add_mul];omega
 ·rw[ap hm,ap hm];have h3:=tp h mode (f+sz) (mx-mn).toNat (f+(bB c mn.toNat f).length);have e1:(((mx-mn).toNat:Nat):Int)=mx-mn:=ae;rw[e1]at h3;simp only[ajQ]
  push_cast
  generalize c8 c mode (f+sz) (mx-mn).toNat (f+(bB c mn.toNat f).length)=z at *;rw[hp,h3,Int.mul_add,Int.sub_mul];omega
theorem uK {k:Re} (hl:l=[k]):(λi=>Re.l6 l i)=k.code:=by subst hl;funext i;simp [Re.l6]
theorem kd (re:Re):re.every ll=true->re.fh<=9000->∀f,((re.code f).length:Int)=re.fh:=by
 induction re using Re.ind with
 |h re ih =>
 intro hs hz f;obtain⟨dM,jA⟩:=(Re.aD re).1 hs;obtain⟨hc,wH,IL,h0⟩:=gY.1 dM;obtain⟨hb,Oc⟩:=ga.1 hc;obtain⟨q1,q2,q3,q4,q5,q6,q7,q8,q9,jc⟩:=fU.1 hb;have hu:=z8 hz;refine Eq.trans ?_ hu.symm;rw[Re.lg];by_cases o1:re.op=1
 ·rw[be o1,be (.inl o1)];rfl
 by_cases sm:re.op=11
 ·rw[ap o1,be sm,be (.inr sm)];rfl
 have hk:=vu hs hz ⟨o1,sm⟩;have uG:∀k∈re.kids,∀f,((k.code f).length:Int)=k.fh:=λk hm f=>ih k hm (jA k hm) (hk.2 k hm) f;have UP:re.op=2->¬re.op=3:=ae;have o5':re.op=2->¬re.op=5:=ae;have o4':re.op=2->¬re.op=4:=ae;have o00:¬re.op=2->¬re.op=3->¬re.op=5->¬re.op=4->re.op=0:=ae;clear hu;rw[ap o1,ap sm,ap (show ¬(re.op=1\/re.op=11) from λh=>h.elim o1 sm)];by_cases o2:re.op=2
 ·rw[be o2,ap (UP o2),ap (o5' o2),ap (o4' o2)];exact Bc uG f
 rw[ap o2];by_cases o3:re.op=3
 ·rw[be o3,be o3];exact Kr uG (by have:=q2 o3;intro h;rw[h]at this;simp at this) f
 rw[ap o3,ap o3];by_cases o5:re.op=5
 ·rw[be o5,be o5];obtain⟨k,fJ⟩:=List.length_eq_one_iff.1 (IL (.inr o5));have:=uG k (by rw[fJ];simp) (f+1);rw[fJ];simp only[Re.l6,Re.cF,ajW,ajQ,ajX]
  push_cast;omega
 rw[ap o5,ap o5];by_cases o4:re.op=4
 ·rw[be o4,be o4];obtain⟨k,fJ⟩:=List.length_eq_one_iff.1 (IL (.inl o4));rw[uK fJ,Uf (n:=Re.cF re.kids) (λf=>by rw[fJ];have:=uG k (by rw[fJ];simp) f;simp only[Re.cF];omega) _ _ _ q5 (Oc o4)]
 ·rw[ap o4,ap o4,h0 (o00 o2 o3 o5 o4)];rfl
def Q2 (g:Nat) (l:List bM):VL.Obj:=⟨g,true,5,(l.map bM.cells).map λc=>c.map V.d⟩
theorem Sv (l:List bM) (n:Nat) (h:l.length<=n):List.take n ((l.map bM.cells).map λc=>c.map V.d)=(l.map bM.cells).map λc=>c.map V.d:=akb (by simpa using h)
end Go.Proofs.YtjjfioalgbecmaaGreat
