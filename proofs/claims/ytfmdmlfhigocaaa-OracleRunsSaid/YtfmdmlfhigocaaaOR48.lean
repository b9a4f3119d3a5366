/- A part of the proof (O51 E50 O44 O58 O45 O46 F110 F115 O54). -/
import Derived.Test.YtfmdmlfhigocaaaOR16
import Derived.Test.YtfmdmlfhigocaaaOR23
import Derived.Test.YtfmdmlfhigocaaaOR24
import Derived.Test.YtfmdmlfhigocaaaOR28
import Derived.Test.YtfmdmlfhigocaaaOR35
import Derived.Test.YtfmdmlfhigocaaaOR37
import Derived.Test.YtfmdmlfhigocaaaOR40
import Derived.Test.YtfmdmlfhigocaaaOR41
import Derived.Test.YtfmdmlfhigocaaaOR43
import Derived.Test.YtfmdmlfhigocaaaOR44
import Derived.Test.YtfmdmlfhigocaaaOR46
import Derived.Test.YtfmdmlfhigocaaaOR47
set_option linter.unusedSimpArgs false
set_option linter.unusedVariables false
open Nat renaming reduceShiftRight → cy, reduceMod → cJ, reduceEqDiff → dV, reduceBEq → gV
set_option maxRecDepth 100000
set_option maxHeartbeats 80000000
namespace Go.Proofs.Ytfmdmlfhigocaaa
open Go.VL Go.Proofs.Try
variable{ai:Int}{re:Re}{top:Int}{nx:Goal}{f:Int}{kind:Int}
def uL (re:Re):Bool:=decide (re.op≠6/\re.op≠9/\re.op≠10/\(re.op=4->re.mode≠2/\jF re.kids=false))
theorem PN {n m:Nat} (hn:n<128) (hm:m<128):iw .and .i64 (n:Int) (m:Int)=((n &&& m:Nat):Int):=by
 have aB:n &&& m<=n:=Nat.and_le_left;have e:∀k:Nat,k<128->(BitVec.ofInt IntKind.i64.bits (k:Int)).toNat=k:=by intro k hk;show (BitVec.ofInt 64 (k:Int)).toNat=k;rw[BitVec.ofInt_natCast,BitVec.toNat_ofNat];omega
 simp only[iw,BitVec.toNat_and,e n hn,e m hm];exact bF _ ae
theorem qB (a b m:Nat):(a ||| b) &&& m=0 ↔ a &&& m=0/\b &&& m=0:=by
 rw[Nat.and_or_distrib_right];constructor
 ·intro h;have h1:a &&& m<=a &&& m ||| b &&& m:=Nat.left_le_or;have h2:b &&& m<=a &&& m ||| b &&& m:=Nat.right_le_or;exact⟨ae,ae⟩
 ·rintro ⟨h1,h2⟩;rw[h1,h2];rfl
structure SM (re:Re):Prop where
 ex:∃u:Nat,u<128/\re.kT=u/\(u &&& 43=0 ↔ re.every uL=true)/\(u &&& 64=0 ↔ re.every (λr=>decide (r.op≠5))=true)
theorem L6 (re:Re):∃u:Nat,u<128/\pF re.op re.mode (jF re.kids)=u/\(u &&& 43=0 ↔ uL re=true)/\(u &&& 64=0 ↔ re.op≠5):=by
 unfold pF uL;rw[decide_eq_true_eq];by_cases h6:re.op=6
 ·exact⟨1,ae,by rw[be h6];rfl,by simp [h6],by simp [h6]⟩
 rw[ap h6];by_cases dX:re.op=10
 ·exact⟨2,ae,by rw[be dX];rfl,by simp [dX],by simp [dX]⟩
 rw[ap dX];by_cases h7:re.op=7\/re.op=8
 ·exact⟨4,ae,by rw[be h7];rfl,by constructor <;> intro _ <;> first|rfl|(refine⟨ae,ae,ae,λh=>ae⟩),by constructor <;> intro _ <;> first|omega|rfl⟩
 rw[ap h7];by_cases h9:re.op=9
 ·exact⟨8,ae,by rw[be h9];rfl,by simp [h9],by simp [h9]⟩
 rw[ap h9];by_cases jK:re.op=11
 ·exact⟨16,ae,by rw[be jK];rfl,by simp [jK],by simp [jK]⟩
 rw[ap jK];by_cases h5:re.op=5
 ·exact⟨64,ae,by rw[be h5];rfl,by simp [h5],by simp [h5]⟩
 rw[ap h5];by_cases h4:re.op=4
 ·rw[be h4];by_cases hm:re.mode=2
  ·cases hb:jF re.kids
   ·exact⟨8,ae,by simp [hm],by simp [h4,hm],by simp [h4]⟩
   ·exact⟨40,ae,by simp only[hm,if_true];decide,by simp [h4,hm],by simp [h4]⟩
  ·cases hb:jF re.kids
   ·exact⟨0,ae,by simp [hm],by simp [h4,hm],by simp [h4]⟩
   ·exact⟨32,ae,by simp only[hm,if_false,if_true];decide,by simp [h4,hm],by simp [h4]⟩
 ·exact⟨0,ae,by rw[ap h4];rfl,by simp [h4,h6,h9,dX],by simp [h5]⟩
theorem B0:∀l:List Re,(∀k∈l,SM k)->∃v:Nat,v<128/\(∀n:Nat,n<128->Re.m6 l n=((n ||| v:Nat):Int))/\(v &&& 43=0 ↔ ∀k∈l,k.every uL=true)/\(v &&& 64=0 ↔ ∀k∈l,k.every (λr=>decide (r.op≠5))=true)
 |[],_=>⟨0,ae,λn _=>by simp [Re.m6],aj,aj⟩
 |k::l,h=>by
  obtain⟨u,h1,h2,h3,h4⟩:=(h k aj).ex;obtain⟨v,k1,k2,k3,k4⟩:=B0 l (λx hx=>h x (by simp [hx]));refine⟨u ||| v,Nat.or_lt_two_pow (n:=7) h1 k1,λn hn=>?_,?_,?_⟩
  ·obtain⟨o1,o2⟩:=YS hn h1;simp only[Re.m6,h2,o1,k2 _ o2,Nat.or_assoc]
  ·rw[qB,h3,k3];simp
  ·rw[qB,h4,k4];simp
theorem GF (re:Re):SM re:=by
 refine Re.ind (Q:=SM) (λre ih=>?_) re;obtain⟨v,v1,v2,v3,v4⟩:=B0 re.kids ih;obtain⟨u,u1,u2,u3,u4⟩:=L6 re;refine⟨u ||| v,Nat.or_lt_two_pow (n:=7) u1 v1,by rw[Re.KQ,u2];exact v2 u u1,?_,?_⟩
 ·rw[qB,u3,v3,Re.av]
 ·rw[qB,u4,v4,Re.av,decide_eq_true_eq]
theorem Pe (re:Re):iw .and .i64 re.kT 43=0 ↔ re.every uL=true:=by obtain⟨u,u1,u2,u3,_⟩:=(GF re).ex;rw[u2,show (43:Int)=((43:Nat):Int) from rfl,PN u1 ae,<- u3];omega
theorem Vh (re:Re):iw .and .i64 re.kT 64=0 ↔ re.every (λr=>decide (r.op≠5))=true:=by obtain⟨u,u1,u2,_,u3⟩:=(GF re).ex;rw[u2,show (64:Int)=((64:Nat):Int) from rfl,PN u1 ae,<- u3];omega
theorem Rp (re:Re):∀r∈re.gz,(r.op=7\/r.op=8)/\r.size<=re.size/\∀p:Re->Bool,re.every p=true->r.every p=true:=by
 refine Re.ind (Q:=λre=>∀r∈re.gz,(r.op=7\/r.op=8)/\r.size<=re.size/\∀p:Re->Bool,re.every p=true->r.every p=true) (λre ih r hr=>?_) re;have hL:∀l:List Re,(∀x∈l,x∈re.kids)->r∈Re.cr l->(r.op=7\/r.op=8)/\r.size<=re.size/\∀p:Re->Bool,re.every p=true->r.every p=true:=by
  intro l;induction l with
  |nil=>intro _ h;simp [Re.cr]at h
  |cons x l D0 =>
   intro hm h;rw[Re.cr]at h;rcases List.mem_append.1 h with h|h
   ·obtain⟨h1,h2,h3⟩:=ih x (hm x aj) r h;have:=Re.bN (hm x aj);exact⟨h1,ae,λp hp=>h3 p (((Re.av re).1 hp).2 x (hm x aj))⟩
   ·exact D0 (λy hy=>hm y (by simp [hy])) h
 rw[Re.z7]at hr;rcases List.mem_append.1 hr with h|h
 ·by_cases ho:re.op=7\/re.op=8
  ·rw[be ho]at h;rw[List.mem_singleton.1 h];exact⟨ho,ajc _,λp hp=>hp⟩
  ·rw[ap ho]at h;simp at h
 ·exact hL re.kids (λ_ h=>h) h
theorem Yk (h:bS re ai top=true) (hu:uL re=true) (ho:l5 re=true):H7 re=true:=by
 obtain⟨h1,_⟩:=fA.1 h;have hu:=of_decide_eq_true hu;refine zd.2 ⟨ho,λo=>?_⟩;have o0:re.op=0:=ae;have h2:(cw re.op).2=0:=by rw[o0];rfl
 exact List.length_eq_zero_iff.1 ae
theorem GC (hc:ai<=9) (re:Re) (h:re.whole ai top=true) (hs:re.size<=256) (hu:re.every uL=true):re.every H7=true:=by revert h hs hu;refine Re.ind (Q:=λre=>re.whole ai top=true->re.size<=256->re.every uL=true->re.every H7=true) (λre ih h hs hu=>?_) re;obtain⟨a1,a2⟩:=(Re.av re).1 h;obtain⟨u1,u2⟩:=(Re.av re).1 hu;have h1:=lF hc re h hs;exact(Re.av re).2 ⟨Yk a1 u1 ((Re.av re).1 h1).1,λk hk=>ih k hk (a2 k hk) (by have:=Re.bN hk;omega) (u2 k hk)⟩
def PH (r:Re):Re:=r.kids.headD gi
def fj (p:eJ):Int:=if cz p≠0 then cz p else if iw .and .i64 p.re.kT 43≠0\/p.re.nest []=true then 10
 else if (p.re.gz.any λr=>decide (iw .and .i64 r.kT 64≠0))=true then 10
 else if (decide (8191<dv p.re)||p.re.gz.any λr=>decide (8191<dv (PH r)))=true then 4 else 0
theorem AN (p:eJ) (hf:p.re.cN=true) (hs:p.re.size<=1000000) (hn:p.re.every (λr=>decide (fx r.n))=true):aM Try.prog 38 [aE p] (i64 (fj p)):=by
 have h1:=nE p hf ae;have h2:=DB p.re ae;have h3:=Vs p.re [] hn hs cG;have h4:=RB p.re hs;have h5:cz p=0->iw .and .i64 p.re.kT 43=0->p.re.every H7=true/\aM Try.prog 74 [kj p.re] (i64 (dv p.re)):=λhv hu=>by obtain⟨v1,v2,v3,v4,v5⟩:=cT hv;have:=GC v4 p.re v5 v1 ((Pe p.re).1 hu);exact⟨this,DE p.re this⟩
 have hlm:=Rp p.re;have Ip:=A7 p.re;have OA:=yA p.re;unfold fj;generalize cz p=vr at *;cases p with
 |mk re ai aF =>
 simp only at *;generalize re.kT=U at *;generalize re.nest []=nb at *;generalize dv re=lx at *;generalize re.gz=L at *;simp only[aE,Re.ah re,aiZ,ai2,aiX,ai0,aq re,i64,iD,bD,bV,an]at h1 h2 h3 h4 h5;by_cases hv:vr=0
 ·subst hv;rw[ap aj];by_cases rZ:iw .and .i64 U 43=0
  ·obtain⟨UC,h6⟩:=h5 rfl rZ;cases nb with
   |true =>
    rw[be (.inr rfl)];refine bk Try.func38 Try.ntmps38 Try.results38 0 511 ?_;simp only[zI,simprocAttr,aE,Re.ah,bV,iD,bD];refine bO h1 ?_;simp only[zI,simprocAttr,aE,Re.ah,bV,iD,bD,ne_eq,not_true_eq_false];refine bp h2 (by simp [ak,ak.go]) rfl ?_;simp only[zI,simprocAttr,aE,Re.ah,bV,iD,bD,ne_eq,not_true_eq_false];refine gP _ (by simp [bm.go,bm,cR]) (bp h3 (by simp [ak,ak.go]) rfl ?_);simp only[zI,simprocAttr,aE,Re.ah,bV,iD,bD,ne_eq,not_true_eq_false,rZ];all_goals rfl
   |false =>
    rw[ap (by simp [rZ])];refine bk Try.func38 Try.ntmps38 Try.results38 0 511 ?_;simp only[zI,simprocAttr,aE,Re.ah,bV,iD,bD];refine bO h1 ?_;simp only[zI,simprocAttr,aE,Re.ah,bV,iD,bD,ne_eq,not_true_eq_false];refine bp h2 (by simp [ak,ak.go]) rfl ?_;simp only[zI,simprocAttr,aE,Re.ah,bV,iD,bD,ne_eq,not_true_eq_false];refine gP _ (by simp [bm.go,bm,cR]) (bp h3 (by simp [ak,ak.go]) rfl ?_);simp only[zI,simprocAttr,aE,Re.ah,bV,iD,bD,ne_eq,not_true_eq_false,rZ];refine bp h4 (by simp [ak,ak.go]) rfl ?_;simp only[zI,simprocAttr,aE,Re.ah,bV,iD,bD,ne_eq,not_true_eq_false,rZ];refine bp h6 (by simp [ak,ak.go]) rfl ?_;simp only[zI,simprocAttr,aE,Re.ah,bV,iD,bD,ne_eq,not_true_eq_false,rZ,gt_iff_lt];refine ay (λn e s=>∃i:Nat,n=L.length-i/\i<=L.length/\e 6=.d (.sl (L.map Re.cells))/\e 7=bV (decide (8191<lx)||(L.take i).any λr=>decide (8191<dv (PH r)))/\e 8=i64 i/\((L.take i).any λr=>decide (iw .and .i64 r.kT 64≠0))=false/\s=[]) ⟨_,_,_,bJ.cut (s':=[]) 0 ae rfl rfl [6,7,8] (by simp [bX,aY,ak]),0,rfl,ae,rfl,by simp;rfl,rfl,aj,rfl⟩ ?_;rintro n e s ⟨i,rfl,hi,q6,q7,q8,jf,rfl⟩;rcases ajr i L.length with aB|iA
    ·obtain⟨r,hr⟩:∃r,L[i]?=some r:=bZ aB;have hm:=ai4 hr;obtain⟨ro,rs,re'⟩:=hlm r hm;have aH:(i:Int)<(L.length:Int):=ae;have tE:=DB r ae;have hro:=re' _ UC;obtain⟨ro1,ro2⟩:=(Re.av r).1 hro;obtain⟨x,hx⟩:∃x,r.kids=[x]:=List.length_eq_one_iff.1 ((iO.1 (zd.1 ro1).1).1 ae);have GO:=DE x (ro2 x (by rw[hx];simp));have hhd:PH r=x:=by unfold PH;rw[hx];rfl
     have vV:r.kids[0]?=some x:=by rw[hx];rfl
     have dZ:(0:Int)<(r.kids.length:Int):=by rw[hx];simp
     have UL:IntKind.i64.wrap ((i:Int)+1)=((i+1:Nat):Int):=by rw[bF _ ae];rfl
     simp only[i64]at tE GO;by_cases RH:iw .and .i64 r.kT 64=0
     ·have abe:((L.take (i+1)).any λr=>decide (iw .and .i64 r.kT 64≠0))=false:=by rw[bj hr,List.any_append,jf];simp [RH]
      have hlg:(decide (8191<lx)||(L.take (i+1)).any λr=>decide (8191<dv (PH r)))=((decide (8191<lx)||(L.take i).any λr=>decide (8191<dv (PH r)))||decide (8191<dv x)):=by simp only[bj hr,List.any_append,Bool.or_assoc,List.any_cons,List.any_nil,akq,hhd]
      generalize hlo:(decide (8191<lx)||(L.take i).any λr=>decide (8191<dv (PH r)))=lo at *;simp only[bV,bD]at q7;cases lo with
      |true =>
       simp only[zI,simprocAttr,iD,bD,bV,q6,q7,q8,aH,hr,aiW];refine bO tE ?_;simp only[zI,simprocAttr,iD,bD,bV,q6,q7,q8,aH,hr,aiW,RH,ne_eq,not_true_eq_false,UL];refine⟨L.length-(i+1),_,_,ae,bJ.refl,i+1,rfl,ae,?_,?_,?_,abe,rfl⟩ <;> (try simp only[zU,gV,cy,cJ,dV,reduceIte])
       ·exact q6
       ·rw[hlg];rfl
      |false =>
       simp only[zI,simprocAttr,iD,bD,bV,q6,q7,q8,aH,hr,aiW];refine bO tE ?_;simp only[zI,simprocAttr,iD,bD,bV,q6,q7,q8,aH,hr,aiW,RH,ne_eq,not_true_eq_false,UL,Re.ah r,dZ,vV];refine bO GO ?_;simp only[zI,simprocAttr,iD,bD,bV,q6,q7,q8,aH,hr,aiW,RH,ne_eq,not_true_eq_false,UL,gt_iff_lt];refine⟨L.length-(i+1),_,_,ae,bJ.refl,i+1,rfl,ae,?_,?_,?_,abe,rfl⟩ <;> (try simp only[zU,gV,cy,cJ,dV,reduceIte])
       ·exact q6
       ·rw[hlg,ajx]
     ·have Uz:(L.any λr=>decide (iw .and .i64 r.kT 64≠0))=true:=by rw[List.any_eq_true];exact⟨r,hm,by simp [RH]⟩
      rw[be Uz];simp only[zI,simprocAttr,iD,bD,bV,q6,q7,q8,aH,hr,aiW];refine bO tE ?_;simp only[zI,simprocAttr,iD,bD,bV,q6,q7,q8,aH,hr,aiW,RH,ne_eq,not_false_eq_true];all_goals rfl
    ·have dY:i=L.length:=by omega
     subst dY;have aH:¬(L.length:Int)<L.length:=ae;rw[ajt]at q7 jf;rw[ap (by rw[jf];simp)];generalize (decide (8191<lx)||L.any λr=>decide (8191<dv (PH r)))=lo at *;simp only[bV,bD]at q7;cases lo with
     |true =>
      simp only[zI,simprocAttr,iD,bD,bV,q6,q7,q8,aH,aiW];all_goals rfl
     |false =>
      simp only[zI,simprocAttr,iD,bD,bV,q6,q7,q8,aH,aiW];all_goals rfl
  ·rw[be (.inl rZ)];refine bk Try.func38 Try.ntmps38 Try.results38 0 511 ?_;simp only[zI,simprocAttr,aE,Re.ah,bV,iD,bD];refine bO h1 ?_;simp only[zI,simprocAttr,aE,Re.ah,bV,iD,bD,ne_eq,not_true_eq_false];refine bp h2 (by simp [ak,ak.go]) rfl ?_;simp only[zI,simprocAttr,aE,Re.ah,bV,iD,bD,ne_eq,not_true_eq_false];refine gP _ (by simp [bm.go,bm,cR]) (bp h3 (by simp [ak,ak.go]) rfl ?_);simp only[zI,simprocAttr,aE,Re.ah,bV,iD,bD,ne_eq,not_true_eq_false,rZ,not_false_eq_true];all_goals rfl
 ·rw[be hv];refine bk Try.func38 Try.ntmps38 Try.results38 0 511 ?_;simp only[zI,simprocAttr,aE,Re.ah,bV,iD,bD];refine bO h1 ?_;simp only[zI,simprocAttr,aE,Re.ah,bV,iD,bD,ne_eq,hv,not_false_eq_true];all_goals rfl
def PG:Bool->Goal->Int->Prop
 |_,.nil,_=>True
 |s,.mk kind re k f nx,i=>if kind=0 then PG (s&&re.sB) nx i else if kind=2 then (if s=true then f<i else f<=i)/\PG s nx i else PG s nx i
theorem PG.mono:∀{gl:Goal}{s s':Bool}{i:Int},(s'=true->s=true)->PG s gl i->PG s' gl i
 |.nil,_,_,_,_,_=>trivial
 |.mk kind re k f nx,s,s',i,hs,h=>by
  unfold PG at h ⊢;by_cases h0:kind=0
  ·rw[be h0]at h ⊢;exact PG.mono (λe=>by
    simp only[aji]at e ⊢;exact⟨hs e.1,e.2⟩) h
  rw[ap h0]at h ⊢;by_cases h2:kind=2
  ·rw[be h2]at h ⊢;refine⟨?_,PG.mono hs h.2⟩;have h1:=h.1;cases s' with
   |true=>rw[hs rfl]at h1;exact h1
   |false =>
    rw[ap Bool.false_ne_true];split at h1 <;> omega
  rw[ap h2]at h ⊢;exact PG.mono hs h
theorem PG.succ:∀{gl:Goal}{s:Bool}{i:Int},PG false gl i->PG s gl (i+1)
 |.nil,_,_,_=>trivial
 |.mk kind re k f nx,s,i,h=>by
  unfold PG at h ⊢;by_cases h0:kind=0
  ·rw[be h0]at h ⊢;rw[Bool.false_and]at h;exact PG.succ h
  rw[ap h0]at h ⊢;by_cases h2:kind=2
  ·rw[be h2]at h ⊢;have h1:=h.1;rw[ap Bool.false_ne_true]at h1;refine⟨by split <;> omega,PG.succ h.2⟩
  rw[ap h2]at h ⊢;exact PG.succ h
theorem PG.push{i:Int}:∀{l:List Re}{s:Bool},PG (s&&Re.ri l) nx i->PG s (iB l nx) i
 |[],s,h=>by simpa [Re.ri,iB]using h
 |k::l,s,h=>by show PG s (.mk 0 k 0 0 (iB l nx)) i;unfold PG;rw[be rfl];refine PG.push ?_;rw[Re.ri,<- Bool.and_assoc]at h;exact h
def fE (c:aD):List Int:=c.flatMap λp=>[p.1,p.2]
theorem QQ (c:aD):(fE c).length=2*c.length:=by
 unfold fE;induction c with
 |nil=>rfl
 |cons p c ih=>rw[List.flatMap_cons,ai6,ih,ai8];simp only[ai8,ai9];omega
theorem HP:∀(c:aD) (m:Nat) (x y:Int),fE (c.set m (x,y))=((fE c).set (2*m) x).set (2*m+1) y
 |[],m,x,y=>by simp [fE]
 |p::c,0,x,y=>by simp [fE]
 |p::c,m+1,x,y=>by have ih:=HP c m x y;have e1:fE ((p::c).set (m+1) (x,y))=p.1::p.2::fE (c.set m (x,y)):=rfl;have e2:fE (p::c)=p.1::p.2::fE c:=rfl;rw[e1,ih,e2,show 2*(m+1)=2*m+1+1 by omega,show 2*m+1+1+1=(2*m+1)+1+1 by omega];simp only[ajw]
theorem Oi {c:aD}{n i:Int} (hn:1<=n):fE (ou c n f i)=((fE c).set (2*n-2).toNat f).set (2*n-1).toNat i:=by
 unfold ou;have e1:(2*n-2).toNat=2*(n-1).toNat:=ae;have e2:(2*n-1).toNat=2*(n-1).toNat+1:=ae;by_cases h:n<=c.length
 ·rw[be ⟨hn,h⟩,HP,e1,e2]
 ·have hl:=QQ c;rw[bd,List.set_eq_of_length_le (l:=fE c) ae,List.set_eq_of_length_le ae]
def opens:Goal->List Int
 |.nil=>[]
 |.mk kind re _ _ nx=>if kind=3 then re.n::opens nx else opens nx
def jC:Goal->aD->List Int
 |.nil,c=>fE c
 |.mk kind re _ f nx,c=>if kind=3 then (jC nx c).set (2*re.n-2).toNat f else jC nx c
theorem dw {k:Int}{c:aD} (h:kind≠3):jC (.mk kind re k f nx) c=jC nx c:=ap h
theorem JC {k:Int} (h:kind≠3):opens (.mk kind re k f nx)=opens nx:=ap h
theorem HU:∀{c d:aD},fE c=fE d->c=d
 |[],[],_=>rfl
 |[],p::d,h=>by simp [fE]at h
 |p::c,[],h=>by simp [fE]at h
 |p::c,q::d,h=>by have e1:p.1::p.2::fE c=q.1::q.2::fE d:=h;injection e1 with h1 h2;injection h2 with h2 h3;rw[HU h3];congr 1;exact Prod.ext h1 h2
section
variable {t t':List Int}{Bs CY:List (List Bool)}{C:List au}
theorem Ka {p p':Nat}{Lt:List Bool} (h:∀n,(bz C n).pass t Bs p=(bz C n).pass t' CY p'):∀(k n:Nat) (st:IE),bu t Bs C p Lt k n st=bu t' CY C p' Lt k n st
 |0,_,_=>rfl
 |k+1,n,st=>by have ih:=Ka (Lt:=Lt) h k;rw[bu,bu];simp only[h,ih]
theorem B5 {p p':Nat}{Lt:List Bool} (h:∀n,(bz C n).pass t Bs p=(bz C n).pass t' CY p'):∀n,cS t Bs C p Lt n=cS t' CY C p' Lt n
 |0=>by simp [cS]
 |n+1=>by rw[kO,kO,B5 h n,Ka h]
theorem xw {m:Nat} (h:∀i,i<m->∀n,(bz C n).pass t Bs (t.length-i)=(bz C n).pass t' CY (t'.length-i)):∀i,i<=m->fe t Bs C i=fe t' CY C i
 |0,_=>rfl
 |i+1,hi=>by rw[fe,fe,xw h i ae,B5 (h i ae)]
structure BR (m:Nat) (a b:sC):Prop where
 ad:a.ad=b.ad
 rd:a.rd=b.rd
 gn:a.gn=b.gn
 ho:∀j,j<m->a.ho[j]?=b.ho[j]?
 la:m<=a.ho.length
 lb:m<=b.ho.length
structure BW (m:Nat) (a b:sC):Prop where
 ad:a.ad=b.ad
 ho:∀j,j<m->a.ho[j]?=b.ho[j]?
 la:m<=a.ho.length
 lb:m<=b.ho.length
end
section
variable {t:List Int}{Bs CY:List (List Bool)}{C:List au}
theorem Q7 (h:∀p n,(bz C n).pass t Bs p=(bz C n).pass t CY p):iF t Bs C=iF t CY C:=by unfold iF;apply ajK;intro p _;rw[xw (m:=t.length-p+1) (λi _ n=>h _ n) _ (ajc _)]
theorem IG {p:Nat} (h:∀n,(bz C n).pass t Bs p=(bz C n).pass t CY p):∀(k n:Nat) (st:sC),gJ t Bs C p k n st=gJ t CY C p k n st
 |0,_,_=>rfl
 |k+1,n,st=>by have ih:=IG h k;rw[gJ,gJ];simp only[h,ih]
theorem Ds {p:Nat} (h:∀n,(bz C n).pass t Bs p=(bz C n).pass t CY p):∀(l:List Nat) (st:sC),cL t Bs C p l st=cL t CY C p l st
 |[],_=>rfl
 |n::l,st=>by have ih:=Ds h l;unfold cL at ih ⊢;rw[akg,akg,IG h,ih]
theorem HS (h:∀p n,(bz C n).pass t Bs p=(bz C n).pass t CY p):∀p,cQ t Bs C p=cQ t CY C p
 |0=>rfl
 |p+1=>by rw[cQ,cQ,HS h p,Ds (h p),IG (h p)]
theorem Vy (h:∀p n,(bz C n).pass t Bs p=(bz C n).pass t CY p):rz t Bs C=rz t CY C:=by unfold rz;rw[HS h]
end
def aa8 (i:au):Prop:=i.op=1\/i.op=5\/i.node=none
theorem NB {x:Re} (hs:x.every l5=true) {k:Nat} (t:List Int) {Bs CY:List (List Bool)} (hR:∀j,k<=j->j<k+x.looks->Bs.getD j []=CY.getD j []) (p n:Nat):(bz (x.emit k []++[bW]) n).pass t Bs p=(bz (x.emit k []++[bW]) n).pass t CY p:=by
 have h1:=Pp (λj=>Bs.getD j []=CY.getD j []) x hs k hR [] ⟨aj,aj⟩;have hP:sr aa8 (λ_=>true):=⟨λi x y h=>h,λx y=>.inr (.inr rfl),λx=>.inr (.inr rfl),λre k _ o=>.inl rfl,λre k _ o=>.inr (.inl rfl),λre _ _=>⟨.inr (.inr rfl),.inr (.inr rfl)⟩⟩
 have h2:lr aa8 (x.emit k []):=Bm hP x (dN (λ_ _=>rfl) x hs) k [] (λi hi=>by simp at hi);by_cases hn:n<(x.emit k []).length
 ·have hm:bz (x.emit k []++[bW]) n∈x.emit k []:=by unfold bz;rw[aja,ajj hn,ajg hn];exact List.getElem_mem hn
  generalize bz (x.emit k []++[bW]) n=i at *;obtain⟨_,q1,q5⟩:=h1.1 i hm;unfold au.pass;rcases h2 i hm with o|o|o
  ·obtain⟨re,k',e1,e2,_⟩:=q1 o;rw[e1];simp only[e2,if_true]
  ·obtain⟨re,k',e1,e2,e3,e4⟩:=q5 o;rw[e1];simp only[e2,if_false];by_cases oh:re.op=11
   ·rw[be oh,be oh]
   ·have e:=e4 oh;rw[ap oh,ap oh,e]
  ·rw[o]
 ·have jf:(bz (x.emit k []++[bW]) n).node=none:=by
   unfold bz;rw[aja,ajh ae];cases n-(x.emit k []).length with
   |zero=>rfl
   |succ j=>rfl
  unfold au.pass;rw[jf]
theorem Uf {p:eJ}{t:List Int} (h:dz p t=0):∀i,i<(p.re.bH 0).length->∃r,HY (p.re.bH 0) 0 i r:=by obtain⟨a,_,_⟩:=qh h;obtain⟨b1,_,b3⟩:=mQ a;obtain⟨v1,v2,v3,v4,v5⟩:=cT b1;have xh:=lF v4 p.re v5 v1;unfold nW at b3;rw[aji]at b3;intro i hi;rw[Re.vR]at hi;exact OJ p.re xh b3.2 0 i hi
def noA (re:Re):Bool:=decide (re.op≠11/\re.op≠7/\re.op≠8)
theorem Sd (l:List Int) (n:Int):∀x∈kE l n,eE false x=true:=by
 intro x hx;unfold kE at hx;obtain⟨i,_,rfl⟩:=List.mem_map.1 hx;rw[aja];cases h:pT[(pick l i 12).toNat]? with
 |none=>decide
 |some y =>
  have hm:=ai4 h;have bK:∀y∈pT,eE false y=true:=aJ;exact bK y hm
structure ahe (p:eJ) (t:List Int):Prop where
 cN:p.re.cN=true
 len:t.length<=12
 no:p.re.every noA=true
 sym:t.all (eE false)=true
end Go.Proofs.Ytfmdmlfhigocaaa
namespace Go.Proofs.Ytfmdmlfhigocaaa
open Go.VL Go.Proofs.Try
variable{re:Re}{t:List Int}
theorem Qk (l:List Int) (dC most:Int) (hl:∀x∈l,fx x) (h0:0<=most) (h1:most<=100):(mO l dC most).re.depth<=6:=by
 have iU:(⟨l,0,dC,most,0⟩:Mk).In 0:=⟨hl,aj,aj,by simpa using h0,by show most<=_;omega,aj,aj⟩
 have h:=(v7 5).tok ⟨l,0,dC,most,0⟩ 0 ae iU;have aaX:=h.dep;show (Mk.tree 5 ⟨l,0,dC,most,0⟩).1.depth<=6;simpa using aaX
def CW:MY:=⟨[],0,false⟩
theorem KL (p:eJ) (hv:cz p=0):∃(g:MY) (e:Int),aM Try.prog 39 [aE p] (.tu [Ox g,i64 e]):=by
 obtain⟨v1,v2,v3,v4,v5⟩:=cT hv;have hC:=OQ v4 p.re v5 ae;have hf:p.re.cN=true:=by
  have:∀re:Re,re.every uM=true->re.cN=true:=λre=>Re.ind (Q:=λre=>re.every uM=true->re.cN=true) (λre ih h=>by
   obtain⟨h1,h2⟩:=(Re.av re).1 h;obtain⟨q1,q2,q3,q4,_⟩:=fB.1 (g7.1 h1).1;exact(Re.pq re).2 ⟨ae,ae,λk hk=>ih k hk (h2 k hk)⟩) re
  exact this p.re hC
 have h1:=nE p hf ae;have h2:=PI p.re [] (JR hC) ae cG;have h3:=Ol p.re hC;have Wx:=jr p.re hC;have w1:IntKind.i64.wrap (p.re.kK+1)=p.re.kK+1:=bF _ ae;cases BK:p.re.comp []with
 |true =>
  by_cases hz:p.re.kK<=8191
  ·exact⟨_,_,Mt p hv BK hz⟩
  ·refine⟨CW,4,?_⟩;have c1:8192<p.re.kK+1:=ae;rw[hv]at h1;rw[BK]at h2;unfold Ox;clear BK;cases p with
   |mk re ai aF =>
   simp only at *;simp only[aE,Re.ah re,aiZ,ai2,aiX,ai0,aq re,i64,iD,bD,bV]at h1 h2 h3;refine bk Try.func39 Try.ntmps39 Try.results39 0 31 ?_;simp only[zI,simprocAttr,aE,Re.ah,bV,iD,bD];refine bO h1 ?_;simp only[zI,simprocAttr,aE,Re.ah,bV,iD,bD,ne_eq,not_true_eq_false];refine bL [] aN (bO h2 ?_);simp only[zX,simprocAttr,bA,i64,aE,Re.ah,bV,iD,bD,aje,ajf];refine bO h3 ?_;simp only[zI,simprocAttr,aE,Re.ah,bV,iD,bD,w1,c1,gt_iff_lt];all_goals (simp [MY.cells,CW,iD,bD])
 |false =>
  refine⟨CW,10,?_⟩;rw[hv]at h1;rw[BK]at h2;unfold Ox;clear BK;cases p with
  |mk re ai aF =>
  simp only at *;simp only[aE,Re.ah re,aiZ,ai2,aiX,ai0,aq re,i64,iD,bD,bV]at h1 h2 h3;refine bk Try.func39 Try.ntmps39 Try.results39 0 31 ?_;simp only[zI,simprocAttr,aE,Re.ah,bV,iD,bD];refine bO h1 ?_;simp only[zI,simprocAttr,aE,Re.ah,bV,iD,bD,ne_eq,not_true_eq_false];refine bL [] aN (bO h2 ?_);simp only[zX,simprocAttr,bA,i64,aE,Re.ah,bV,iD,bD,ajd];all_goals (simp [MY.cells,CW,iD,bD])
structure Ha (p:eJ) (t:List Int):Prop where
 valid:cz p=0
 cN:p.re.cN=true
 depth:p.re.depth<=7
 aF:p.aF=false
 len:t.length<=12
 sym:t.all (eE false)=true
 nn:p.re.every (λr=>decide (fx r.n))=true
 ai:fx p.ai
 small:p.re.every (fl 256)=true
structure uZ (p:eJ) (t:List Int):Prop where
 valid:cz p=0
 cN:p.re.cN=true
 depth:p.re.depth<=6
 aF:p.aF=false
 len:t.length<=12
 sym:t.all (eE false)=true
 ai:fx p.ai
 small:p.re.every (fl 256)=true
 qW:∀i:Int,0<=i->i<=t.length->gU p t i (-1) 3000=0
theorem Ej (l m:List Int) (hl:∀x∈l,fx x) (hm:∀x∈m,fx x) (u most:Int) (Dm:0<=most) (JH:most<=100):∃(p:eJ) (t:List Int),aM Try.prog 16 [.d (an l),.d (an m),i64 u,i64 most,i64 3000] (.tu [aE p,.d (an t)])/\uZ p t:=by
 obtain⟨hv,fY⟩:=Bk l u most hl ae ae;have ZB:=Hp l u most hl ae ae;have SH:(mO l u most).re.cN=true:=ts ae _ ZB.ev;have QN:(kE m 12).length<=12:=by simp [kE];omega
 obtain⟨g1,g2,g3⟩:=Gx (p:=mO l u most) (t:=kE m 12) (F:=3000) hv SH ae ae ((kE m 12).length+1) (ajc _);have hdp:=Qk l u most hl ae ae;obtain⟨v1,v2,v3,v4,v5⟩:=cT hv;have Al:=Ph (mO l u most) (kE m 12) 3000 ((kE m 12).length+1);have aew:=Lp (mO l u most) (kE m 12) 3000 ((kE m 12).length+1);have CS:(dx (mO l u most) (kE m 12) 3000 ((kE m 12).length+1)).2.all (eE false)=true:=by rw[ajo];exact λx hx=>Sd m 12 x (aew x hx)
 refine⟨_,_,Wp l m hl hm u most 3000 ae ae,?_⟩;rcases Al with h|h
 ·exact⟨by rw[h];exact hv,g2,by rw[h];exact hdp,by rw[h];rfl,ae,CS,by rw[h];exact ZB.ai,by rw[h];exact ZB.ev,g1⟩
 ·refine⟨?_,g2,?_,by rw[h],ae,CS,?_,?_,g1⟩
  ·rw[h];exact BQ _ v3 v4
  ·rw[h,Re.mc];show rP []+1<=6;simp [rP]
  ·rw[h];exact ZB.ai
  ·rw[h];exact(Re.av _).2 ⟨(by decide:fl 256 (.mk 0 [] [] 0 0 0 0 false)=true),λk hk=>by cases hk⟩
theorem Gt (l m:List Int) (hl:∀x∈l,fx x) (hm:∀x∈m,fx x) (u:Int):∃(p:eJ) (t:List Int),aM Try.prog 16 [.d (an l),.d (an m),i64 u,i64 24,i64 3000] (.tu [aE p,.d (an t)])/\uZ p t:=Ej l m hl hm u 24 ae ae
def jH (re:Re) (a b:Int):Re:=.mk 2 [] [re,.mk (7+a) [] [.mk 1 [(97,98)] [] 0 0 0 0 false] 0 0 0 0 (decide (b=0))] 0 0 0 0 false
theorem Mf (l:List Int) (i:Int):0<=pick l i 2/\pick l i 2<=1:=by have:=cB l i 2 ae;omega
theorem wK (re:Re) (a b:Int):(jH re a b).cells=[iD 2,.sl [],.sl [re.cells,[iD (7+a),.sl [],.sl [[iD 1,.sl [[iD 97,iD 98]],.sl [],iD 0,iD 0,iD 0,iD 0,bD false]],iD 0,iD 0,iD 0,iD 0,bD (decide (b=0))]],iD 0,iD 0,iD 0,iD 0,bD false]:=by rw[Re.ah];simp only[jH,Re.op,Re.set,Re.kids,Re.mn,Re.mx,Re.mode,Re.n,Re.neg,aiZ,ai2];rw[Re.ah (.mk (7+a) _ _ _ _ _ _ _)];simp only[Re.op,Re.set,Re.kids,Re.mn,Re.mx,Re.mode,Re.n,Re.neg,aiZ,ai2];rw[Re.ah (.mk 1 _ _ _ _ _ _ _)];simp only[Re.op,Re.set,Re.kids,Re.mn,Re.mx,Re.mode,Re.n,Re.neg,aiZ,ai2,aU]
theorem KS (h:re.cN=true) (a b:Int):(jH re a b).cN=true:=by
 refine(Re.pq _).2 ⟨by simp [jH,Re.set],by simp [jH,Re.kids],λk hk=>?_⟩;simp only[jH,Re.kids,ajF,ajP,or_false]at hk;rcases hk with rfl|rfl
 ·exact h
 ·refine(Re.pq _).2 ⟨by simp [Re.set],by simp [Re.kids],λk hk=>?_⟩;simp only[Re.kids,ajF,ajP,or_false]at hk;rw[hk];refine(Re.pq _).2 ⟨by simp [Re.set],by simp [Re.kids],λk hk=>?_⟩;simp [Re.kids]at hk
theorem As{p:Re->Bool} (h:re.every p=true) (a b:Int) (h1:p (jH re a b)=true) (h2:p (.mk (7+a) [] [.mk 1 [(97,98)] [] 0 0 0 0 false] 0 0 0 0 (decide (b=0)))=true) (h3:p (.mk 1 [(97,98)] [] 0 0 0 0 false)=true):(jH re a b).every p=true:=by
 refine(Re.av _).2 ⟨h1,λk hk=>?_⟩;simp only[jH,Re.kids,ajF,ajP,or_false]at hk;rcases hk with rfl|rfl
 ·exact h
 ·refine(Re.av _).2 ⟨h2,λk hk=>?_⟩;simp only[Re.kids,ajF,ajP,or_false]at hk;rw[hk];exact(Re.av _).2 ⟨h3,λk hk=>by simp [Re.kids]at hk⟩
theorem Tq (re:Re) (a b:Int):(jH re a b).size=re.size+3:=by rw[Re.size_eq];simp only[jH,Re.kids,Re.bT];rw[Re.size_eq (.mk (7+a) _ _ _ _ _ _ _)];simp only[Re.kids,Re.bT];rw[Re.size_eq (.mk 1 _ _ _ _ _ _ _)];simp only[Re.kids,Re.bT];omega
theorem Q4 (h:re.depth<=6) (a b:Int):(jH re a b).depth<=7:=by
 have hd:(Re.mk (7+a) [] [.mk 1 [(97,98)] [] 0 0 0 0 false] 0 0 0 0 (decide (b=0))).depth=2:=by rw[Re.mc];show rP [(Re.mk 1 [(97,98)] [] 0 0 0 0 false).depth]+1=2;rw[Re.mc];rfl
 rw[Re.mc];show rP [re.depth,(Re.mk (7+a) [] [.mk 1 [(97,98)] [] 0 0 0 0 false] 0 0 0 0 (decide (b=0))).depth]+1<=7;rw[hd];simp only[rP,akg,List.foldl_nil];omega
theorem uZ.nn {p:eJ} (h:uZ p t):p.re.every (λr=>decide (fx r.n))=true :=
 dN (λr h=>by
  unfold fl at h;rw[aji,decide_eq_true_eq]at h;exact bi h.1.2.2.2.2.2.2) p.re h.small
theorem uZ.r {p:eJ}{t:List Int} (h:uZ p t):Ha p t:=⟨h.valid,h.cN,by have:=h.depth;omega,h.aF,h.len,h.sym,h.nn,h.ai,h.small⟩
theorem uZ.size {p:eJ} (h:uZ p t):p.re.size<=256:=(cT h.valid).1
theorem uZ.add{ai:Int}{aF:Bool} (h:uZ ⟨re,ai,aF⟩ t) {a b:Int} (h0:0<=a) (h1:a<=1) (ha:fj ⟨jH re a b,ai,aF⟩=0):Ha ⟨jH re a b,ai,aF⟩ t:=by
 have hv:cz ⟨jH re a b,ai,aF⟩=0:=by
  unfold fj at ha;split at ha
  ·rename_i h;exact absurd ha h
  ·rename_i h;exact Decidable.not_not.1 h
 refine⟨hv,KS h.cN a b,Q4 h.depth a b,h.aF,h.len,h.sym,As h.nn a b ?_ ?_ ?_,h.ai,As h.small a b ?_ ?_ ?_⟩
 ·exact bi (show fx 0 by decide)
 ·exact bi (show fx 0 by decide)
 ·exact bi (show fx 0 by decide)
 ·simp [fl,jH,Re.set,Re.kids,Re.op,Re.mn,Re.mx,Re.mode,Re.n,fx]
 ·simp [fl,Re.set,Re.kids,Re.op,Re.mn,Re.mx,Re.mode,Re.n,fx];omega
 ·decide
end Go.Proofs.Ytfmdmlfhigocaaa
