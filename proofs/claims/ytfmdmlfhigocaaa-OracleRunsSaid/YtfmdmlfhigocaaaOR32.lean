/- A part of the proof (K2 O20 O26). -/
import Derived.Test.YtfmdmlfhigocaaaOR15
import Derived.Test.YtfmdmlfhigocaaaOR24
import Derived.Test.YtfmdmlfhigocaaaOR25
import Derived.Test.YtfmdmlfhigocaaaOR31
set_option linter.unusedSimpArgs false
set_option linter.unusedVariables false
open Nat renaming reduceShiftRight → cy, reduceMod → cJ, reduceEqDiff → dV, reduceBEq → gV
set_option maxRecDepth 100000
set_option maxHeartbeats 80000000
namespace Go.Proofs.Ytfmdmlfhigocaaa
open Go.VL Go.Proofs.Try
variable{re:Re}{R:Nat->Prop}{C:List au}
def Sa (re:Re):Bool:=decide ((re.op=4\/re.op=5->1<=re.kids.length)/\(re.op=3->2<=re.kids.length)/\re.kids.length<=1000/\re.set.length<=1000000/\0<=re.mn/\re.mn<=32/\-1<=re.mx/\re.mx<=32/\(re.mx=-1\/re.mx=0\/re.mn<=re.mx)/\fx re.n/\re.n<=1000000/\-1000000<=re.n)
theorem fB:Sa re=true ↔ ((re.op=4\/re.op=5->1<=re.kids.length)/\(re.op=3->2<=re.kids.length)/\re.kids.length<=1000/\re.set.length<=1000000/\0<=re.mn/\re.mn<=32/\-1<=re.mx/\re.mx<=32/\(re.mx=-1\/re.mx=0\/re.mn<=re.mx)/\fx re.n/\re.n<=1000000/\-1000000<=re.n):=decide_eq_true_iff
theorem PI (re:Re):∀a:List Int,re.every Sa=true->re.size<=1000000->a.length+re.size<=2000000->aM prog 75 [kj re,.d (an a)] (bV (re.comp a)):=by
 induction re using Re.ind with
 |h re ih =>
 intro a hs hz ha;obtain⟨ef,fU⟩:=(Re.av re).1 hs;obtain⟨q1,q2,q3,q4,q5,q6,q7,q8,q9,ji⟩:=fB.1 ef;have fY:=Re.size_eq re;have kB:∀a':List Int,a'.length<=a.length+1->∀k∈re.kids,aM prog 75 [kj k,.d (an a')] (bV (k.comp a')):=λa' Q5 k hk =>
  ih k hk a' (fU k hk) (by have:=Re.bN hk;omega) (by have:=Re.bN hk;omega)
 by_cases c1:re.op=4/\(re.mode=2\/Re.qa re.kids=true)
 ·rw[Re.wq,be c1];obtain⟨o4,c1⟩:=c1;obtain⟨k,l,hk⟩:=List.exists_cons_of_length_pos (q1 (.inl o4));have hm:k∈re.kids:=by rw[hk];simp
  have hk0:re.kids[0]?=some k:=by rw[hk];rfl
  have hlen:(0:Int)<(re.kids.length:Int):=by rw[hk];simp
  have hn:=iL k (by have:=Re.bN hm;omega);rw[hk]at c1;by_cases cm:re.mode=2
  ·refine bk func75 ntmps75 results75 0 247 ?_;simp only[zI,simprocAttr,aq re,iD,bD,o4,cm];rfl
  ·have cn:k.sB=true:=c1.resolve_left cm;rw[cn]at hn;refine bk func75 ntmps75 results75 0 247 ?_;simp only[zI,simprocAttr,aq re,iD,bD,o4,cm,hk0,hlen];refine bO hn ?_;simp only[zI,simprocAttr,aq re,iD,bD,bV]
 have c1':¬(re.op=4/\(re.mode=2\/Re.qa re.kids=true)):=c1;by_cases c2:re.op=5
 ·have hh:=TM a re.n ae;by_cases c3:re.n∈a
  ·rw[Re.wq,ap c1,be ⟨c2,c3⟩];rw[bi c3]at hh;refine bk func75 ntmps75 results75 0 247 ?_;simp only[zI,simprocAttr,aq re,iD,bD,c2,an];refine bO hh ?_;simp only[zI,simprocAttr,aq re,iD,bD,bV,c2]
  ·rw[Re.wq,ap c1,ap (λh=>c3 h.2),bd,be c2];rw[ce c3]at hh;have tO:∀e∈(a.map λx=>[iD x]).map (λx=>x.map V.d),e.length=1:=λe he=>by obtain⟨x,hx,rfl⟩:=List.mem_map.1 he;obtain⟨p,_,rfl⟩:=List.mem_map.1 hx;rfl
   refine bk func75 ntmps75 results75 0 247 ?_;simp only[zI,simprocAttr,aq re,iD,bD,c2,an];refine bO hh ?_;simp only[zI,simprocAttr,aq re,iD,bD,bV,c2,ajf];refine aX (fQ 6 1 rfl) ?_;refine aA mix [] [(2,[1],[1]),(6,[1],[1])] aN ?_;simp only[zI,simprocAttr,aq re,iD,bD,bV,c2];refine⟨rfl,tO,ae,rfl,λe he=>by rw[List.mem_singleton.1 he];rfl,⟨ae,ae⟩,?_⟩;have hL:=kB (a++[re.n]) aj;generalize haa:a++[re.n]=aa at *;refine ay (λn e s=>∃i:Nat,n=re.kids.length-i/\i<=re.kids.length/\e 1=.d (an aa)/\e 2=.rf 0 0 0 0/\e 7=i64 i/\(∀x∈re.kids.take i,x.comp aa=true)/\s=[aI re])
    ⟨_,_,_,Ov (s':=[aI re]) 1 (aa.map λx=>[iD x]) 1 [1,2,7] rfl rfl ?_ ?_ ae (ajc _) ?_ (by simp [aI,Re.ah re,bc,ak,iD,bD]) rfl,0,rfl,ae,?_,?_,?_,aj,rfl⟩ ?_
   ·rw[ajQ,<- haa,ajb aj,ajb aj];simp [iD]
   ·simp
   ·simp [aI,Re.ah re,iD,bD,c2]
   ·rfl
   ·rfl
   ·rfl
   rintro n e s ⟨i,rfl,hi,h1,h2,h7,bK,rfl⟩;simp only[an]at h1;rcases ajr i re.kids.length with aB|iA
   ·obtain⟨k,hk⟩:∃k,re.kids[i]?=some k:=bZ aB;have hm:=ai4 hk;have MG:=hL k hm;simp only[an]at MG;have aH:(i:Int)<re.kids.length:=ae;simp only[zI,simprocAttr,aI,Re.ah re,aiZ,ai2,iD,bD,h1,h2,h7,aH,hk];refine bp MG (by simp [ak,ak.go,aq]) eX ?_;cases dZ:k.comp aa with
    |true =>
     simp only[zI,simprocAttr,iD,bD,bV,h1,h2,h7,dZ,aje];refine⟨re.kids.length-(i+1),_,_,ae,bJ.refl,i+1,rfl,aB,?_,?_,?_,?_,rfl⟩ <;> (try simp only[zU,gV,cy,cJ,dV,reduceIte])
     ·exact h1
     ·exact h2
     ·rw[bF _ ae];rfl
     ·intro x hx;rcases cC hk hx with h|rfl
      ·exact bK x h
      ·exact dZ
    |false =>
     simp only[zI,simprocAttr,iD,bD,bV,h1,h2,h7,dZ,ajd];have:(re.kids.all λk=>k.comp aa)=false:=by rw[akr];exact⟨k,hm,by simp [dZ]⟩
     rw[this]
   ·have dY:i=re.kids.length:=by omega
    subst dY;have aH:¬(re.kids.length:Int)<re.kids.length:=ae;rw[ajt]at bK;have:(re.kids.all λk=>k.comp aa)=true:=by rw[ajo];exact bK
    rw[this];simp only[zI,simprocAttr,aI,Re.ah re,aiZ,ai2,iD,bD,bV,h1,h2,h7,aH]
 ·have hL:=kB a ae;by_cases c3:5<re.op/\re.op≠11
  ·rw[Re.wq,ap c1,ap (λh=>c2 h.1),be c3];have c4:re.op≠4:=ae;have c5:=c3.1;have c6:=c3.2;refine bk func75 ntmps75 results75 0 247 ?_;simp only[zI,simprocAttr,aq re,iD,bD,bV,c2,c4,c5,c6,gt_iff_lt,ne_eq,not_false_eq_true]
  ·rw[Re.wq,ap c1,ap (λh=>c2 h.1),ap c3,ap c2];generalize a=aa at *;by_cases o4:re.op=4
   ·have cm:re.mode≠2:=λh=>c1 ⟨o4,.inl h⟩;obtain⟨k,l,hk⟩:=List.exists_cons_of_length_pos (q1 (.inl o4));have cn:k.sB=false:=by
     cases h:k.sB with
     |false=>rfl
     |true=>exact absurd ⟨o4,.inr (by rw[hk];exact h)⟩ c1
    have hm:k∈re.kids:=by rw[hk];simp
    have hk0:re.kids[0]?=some k:=by rw[hk];rfl
    have hlen:(0:Int)<(re.kids.length:Int):=by rw[hk];simp
    have hn:=iL k (by have:=Re.bN hm;omega);rw[cn]at hn;refine bk func75 ntmps75 results75 0 247 ?_;simp only[zI,simprocAttr,aq re,iD,bD,o4,cm,hk0,hlen];refine bO hn ?_;simp only[zI,simprocAttr,aq re,iD,bD,bV,o4,ajf,gt_iff_lt];refine ay (λn e s=>∃i:Nat,n=re.kids.length-i/\i<=re.kids.length/\e 1=.d (an aa)/\e 2=.rf 0 0 0 0/\e 7=i64 i/\(∀x∈re.kids.take i,x.comp aa=true)/\s=[aI re])
     ⟨_,_,_,bJ.refl,0,rfl,ae,rfl,rfl,rfl,aj,by simp [aI,Re.ah re,iD,bD,o4]⟩ ?_
    rintro n e s ⟨i,rfl,hi,h1,h2,h7,bK,rfl⟩;simp only[an]at h1;rcases ajr i re.kids.length with aB|iA
    ·obtain⟨k,hk⟩:∃k,re.kids[i]?=some k:=bZ aB;have hm:=ai4 hk;have MG:=hL k hm;simp only[an]at MG;have aH:(i:Int)<re.kids.length:=ae;simp only[zI,simprocAttr,aI,Re.ah re,aiZ,ai2,iD,bD,h1,h2,h7,aH,hk];refine bp MG (by simp [ak,ak.go,aq]) eX ?_;cases dZ:k.comp aa with
     |true =>
      simp only[zI,simprocAttr,iD,bD,bV,h1,h2,h7,dZ,aje];refine⟨re.kids.length-(i+1),_,_,ae,bJ.refl,i+1,rfl,aB,?_,?_,?_,?_,rfl⟩ <;> (try simp only[zU,gV,cy,cJ,dV,reduceIte])
      ·exact h1
      ·exact h2
      ·rw[bF _ ae];rfl
      ·intro x hx;rcases cC hk hx with h|rfl
       ·exact bK x h
       ·exact dZ
     |false =>
      simp only[zI,simprocAttr,iD,bD,bV,h1,h2,h7,dZ,ajd];have:(re.kids.all λk=>k.comp aa)=false:=by rw[akr];exact⟨k,hm,by simp [dZ]⟩
      rw[this]
    ·have dY:i=re.kids.length:=by omega
     subst dY;have aH:¬(re.kids.length:Int)<re.kids.length:=ae;rw[ajt]at bK;have:(re.kids.all λk=>k.comp aa)=true:=by rw[ajo];exact bK
     rw[this];simp only[zI,simprocAttr,aI,Re.ah re,aiZ,ai2,iD,bD,bV,h1,h2,h7,aH]
   ·by_cases c5:5<re.op
    ·have c6:re.op=11:=by omega
     refine bk func75 ntmps75 results75 0 247 ?_;simp only[zI,simprocAttr,aq re,iD,bD,bV,c6,ajf,gt_iff_lt,ne_eq,not_true_eq_false];refine ay (λn e s=>∃i:Nat,n=re.kids.length-i/\i<=re.kids.length/\e 1=.d (an aa)/\e 2=.rf 0 0 0 0/\e 7=i64 i/\(∀x∈re.kids.take i,x.comp aa=true)/\s=[aI re])
      ⟨_,_,_,bJ.refl,0,rfl,ae,rfl,rfl,rfl,aj,by simp [aI,Re.ah re,iD,bD,c6]⟩ ?_
     rintro n e s ⟨i,rfl,hi,h1,h2,h7,bK,rfl⟩;simp only[an]at h1;rcases ajr i re.kids.length with aB|iA
     ·obtain⟨k,hk⟩:∃k,re.kids[i]?=some k:=bZ aB;have hm:=ai4 hk;have MG:=hL k hm;simp only[an]at MG;have aH:(i:Int)<re.kids.length:=ae;simp only[zI,simprocAttr,aI,Re.ah re,aiZ,ai2,iD,bD,h1,h2,h7,aH,hk];refine bp MG (by simp [ak,ak.go,aq]) eX ?_;cases dZ:k.comp aa with
      |true =>
       simp only[zI,simprocAttr,iD,bD,bV,h1,h2,h7,dZ,aje];refine⟨re.kids.length-(i+1),_,_,ae,bJ.refl,i+1,rfl,aB,?_,?_,?_,?_,rfl⟩ <;> (try simp only[zU,gV,cy,cJ,dV,reduceIte])
       ·exact h1
       ·exact h2
       ·rw[bF _ ae];rfl
       ·intro x hx;rcases cC hk hx with h|rfl
        ·exact bK x h
        ·exact dZ
      |false =>
       simp only[zI,simprocAttr,iD,bD,bV,h1,h2,h7,dZ,ajd];have:(re.kids.all λk=>k.comp aa)=false:=by rw[akr];exact⟨k,hm,by simp [dZ]⟩
       rw[this]
     ·have dY:i=re.kids.length:=by omega
      subst dY;have aH:¬(re.kids.length:Int)<re.kids.length:=ae;rw[ajt]at bK;have:(re.kids.all λk=>k.comp aa)=true:=by rw[ajo];exact bK
      rw[this];simp only[zI,simprocAttr,aI,Re.ah re,aiZ,ai2,iD,bD,bV,h1,h2,h7,aH]
    ·refine bk func75 ntmps75 results75 0 247 ?_;simp only[zI,simprocAttr,aq re,iD,bD,bV,o4,c5,c2,ajf,gt_iff_lt,ne_eq,not_true_eq_false];refine ay (λn e s=>∃i:Nat,n=re.kids.length-i/\i<=re.kids.length/\e 1=.d (an aa)/\e 2=.rf 0 0 0 0/\e 7=i64 i/\(∀x∈re.kids.take i,x.comp aa=true)/\s=[aI re])
      ⟨_,_,_,bJ.refl,0,rfl,ae,rfl,rfl,rfl,aj,by simp [aI,Re.ah re,iD,bD,o4]⟩ ?_
     rintro n e s ⟨i,rfl,hi,h1,h2,h7,bK,rfl⟩;simp only[an]at h1;rcases ajr i re.kids.length with aB|iA
     ·obtain⟨k,hk⟩:∃k,re.kids[i]?=some k:=bZ aB;have hm:=ai4 hk;have MG:=hL k hm;simp only[an]at MG;have aH:(i:Int)<re.kids.length:=ae;simp only[zI,simprocAttr,aI,Re.ah re,aiZ,ai2,iD,bD,h1,h2,h7,aH,hk];refine bp MG (by simp [ak,ak.go,aq]) eX ?_;cases dZ:k.comp aa with
      |true =>
       simp only[zI,simprocAttr,iD,bD,bV,h1,h2,h7,dZ,aje];refine⟨re.kids.length-(i+1),_,_,ae,bJ.refl,i+1,rfl,aB,?_,?_,?_,?_,rfl⟩ <;> (try simp only[zU,gV,cy,cJ,dV,reduceIte])
       ·exact h1
       ·exact h2
       ·rw[bF _ ae];rfl
       ·intro x hx;rcases cC hk hx with h|rfl
        ·exact bK x h
        ·exact dZ
      |false =>
       simp only[zI,simprocAttr,iD,bD,bV,h1,h2,h7,dZ,ajd];have:(re.kids.all λk=>k.comp aa)=false:=by rw[akr];exact⟨k,hm,by simp [dZ]⟩
       rw[this]
     ·have dY:i=re.kids.length:=by omega
      subst dY;have aH:¬(re.kids.length:Int)<re.kids.length:=ae;rw[ajt]at bK;have:(re.kids.all λk=>k.comp aa)=true:=by rw[ajo];exact bK
      rw[this];simp only[zI,simprocAttr,aI,Re.ah re,aiZ,ai2,iD,bD,bV,h1,h2,h7,aH]
def dv (re:Re):Int:=min (re.dc:Int) 8193
def l5 (re:Re):Bool:=decide ((re.op=4\/re.op=5\/re.op=7\/re.op=8->re.kids.length=1)/\(re.op=3->2<=re.kids.length)/\re.kids.length<=1000/\0<=re.mn/\re.mn<=32/\-1<=re.mx/\re.mx<=32/\(re.op=4->re.mx=-1\/(1<=re.mx/\re.mn<=re.mx))/\0<=re.n/\re.n<=9/\(re.op=5->1<=re.n)/\(re.op=11->re.n<=5)/\0<=re.op/\re.op<=11/\re.set.length<=1000000)
theorem iO:l5 re=true ↔ (re.op=4\/re.op=5\/re.op=7\/re.op=8->re.kids.length=1)/\(re.op=3->2<=re.kids.length)/\re.kids.length<=1000/\0<=re.mn/\re.mn<=32/\-1<=re.mx/\re.mx<=32/\(re.op=4->re.mx=-1\/(1<=re.mx/\re.mn<=re.mx))/\0<=re.n/\re.n<=9/\(re.op=5->1<=re.n)/\(re.op=11->re.n<=5)/\0<=re.op/\re.op<=11/\re.set.length<=1000000:=by unfold l5;rw[decide_eq_true_eq]
theorem E3 (h:re.every l5=true):re.every OH=true:=dN (λr h=>by
 obtain⟨q1,q2,q3,q4,q5,q6,q7,q8,q9,ji,_⟩:=iO.1 h;exact sM.2 ⟨λh=>q1 ae,λh=>by have:=q2 h;omega,ae,q4,ae,q6,ae,q9,ae⟩) re h
theorem OT {m x z:Int} (hz:0<=z) (m0:0<=m) (h:x=-1\/(1<=x/\m<=x)) :
  min (if x=-1 then m*min z 8193+(min z 8193+2) else m*min z 8193+(x-m)*(min z 8193+1)) 8193=min (if x=-1 then m*z+z+2 else m*z+(x-m)*(z+1)) 8193:=by
 by_cases hc:z<=8193
 ·rw[Int.min_eq_left hc];by_cases hx:x=-1
  ·rw[be hx,be hx,Int.add_assoc]
  ·rw[ap hx,ap hx]
 ·rw[show min z 8193=8193 by omega];by_cases hx:x=-1
  ·rw[be hx,be hx];have h1:0<=m*8193:=akj m0 ae;have h2:0<=m*z:=akj m0 hz;omega
  ·rw[ap hx,ap hx];obtain⟨h1,h2⟩:=h.resolve_left hx;have key:∀y:Int,8193<=y->8193<=m*y+(x-m)*(y+1):=by
    intro y hy;have e1:0<=(x-m)*(y+1):=akj ae ae;have e2:0<=m*y:=akj m0 ae;by_cases hm:1<=m
    ·have:1*y<=m*y:=ajG hm ae;omega
    ·have Dm:m=0:=by omega
     subst Dm;have:1*(y+1)<=(x-0)*(y+1):=ajG ae ae;omega
   have k1:=key 8193 ae;have k2:=key z ae;omega
theorem Px {x:Re} (o:re.op=4) (hk:re.kids=[x]) (m0:0<=re.mn) (h:re.mx=-1\/(1<=re.mx/\re.mn<=re.mx)):(re.dc:Int)=if re.mx=-1 then re.mn*x.dc+x.dc+2 else re.mn*x.dc+(re.mx-re.mn)*(x.dc+1):=by
 rw[Re.gj,nK,bd,bd,bd,bd,be o,hk];have e1:((re.mn.toNat:Nat):Int)=re.mn:=ae;by_cases hx:re.mx=-1
 ·rw[be hx,be hx];simp only[Re.cu,aj5]
  push_cast
  rw[e1];generalize re.mn*(x.dc:Int)=y;omega
 ·rw[ap hx,ap hx];simp only[Re.cu,aj5];have e2:(((re.mx-re.mn).toNat:Nat):Int)=re.mx-re.mn:=ae
  push_cast
  rw[e1,e2]
theorem Eg (re:Re):re.every l5=true->aM Try.prog 71 [kj re] (i64 (dv re)):=by
 induction re using Re.ind with
 |h re ih =>
 intro hs;obtain⟨ef,fU⟩:=(Re.av re).1 hs;obtain⟨q1,q2,q3,q4,q5,q6,q7,q8,q9,ji,_,_,Ao,q14,_⟩:=iO.1 ef;have oq:re.op=1\/re.op=11\/re.op=7\/re.op=8\/re.op=2\/re.op=3\/re.op=5\/re.op=4\/re.op=0\/re.op=6\/re.op=9\/re.op=10:=ae;have tD:(re.op=1\/re.op=11\/re.op=7\/re.op=8)->dv re=1:=λh=>by rw[dv,Re.gj,nK,be h];rfl
 have jf:(re.op=0\/re.op=6\/re.op=9\/re.op=10)->dv re=0:=λh=>by rw[dv,Re.gj,nK,bd,bd,bd,bd,bd];rfl
 have QF:(re.op=4\/re.op=5)->∃x,re.kids=[x]:=λh=>List.length_eq_one_iff.1 (q1 ae);rcases oq with o|o|o|o|o|o|o|o|o|o|o|o
 case inl=>rw[tD ae];refine bk Try.func71 Try.ntmps71 Try.results71 0 1852271 ?_;simp only[zI,simprocAttr,aq re,iD,bD,o]
 case inr.inl=>rw[tD ae];refine bk Try.func71 Try.ntmps71 Try.results71 0 1852271 ?_;simp only[zI,simprocAttr,aq re,iD,bD,o]
 case inr.inr.inl=>rw[tD ae];refine bk Try.func71 Try.ntmps71 Try.results71 0 1852271 ?_;simp only[zI,simprocAttr,aq re,iD,bD,o]
 case inr.inr.inr.inl=>rw[tD ae];refine bk Try.func71 Try.ntmps71 Try.results71 0 1852271 ?_;simp only[zI,simprocAttr,aq re,iD,bD,o]
 case inr.inr.inr.inr.inl =>
  have hz:dv re=min (min (Re.cu re.kids:Int) 8193) 8193:=by rw[dv,Re.gj,nK,bd,be o];omega
  refine bk Try.func71 Try.ntmps71 Try.results71 0 1852271 ?_;simp only[zI,simprocAttr,aq re,iD,bD,o];refine ay (λn e s=>∃i:Nat,n=re.kids.length-i/\i<=re.kids.length/\e 1=.rf 0 0 0 0/\e 3=i64 (min (Re.cu (re.kids.take i):Int) 8193)/\e 18=.d (.sl (re.kids.map Re.cells))/\e 19=i64 re.kids.length/\e 20=i64 i/\s=[aI re]) ⟨_,_,_,bJ.refl,0,rfl,ae,rfl,rfl,rfl,rfl,rfl,by simp [aI,Re.ah re,iD,bD,o]⟩ ?_;rintro n e s ⟨i,rfl,hi,h1,h3,lB,l7,oR,rfl⟩;rcases ajr i re.kids.length with aB|iA
  ·obtain⟨k,hk⟩:∃k,re.kids[i]?=some k:=bZ aB;have hm:=ai4 hk;have aH:(i:Int)<(re.kids.length:Int):=ae;have hi0:(0:Int)<=(i:Int):=ae;have GB:Re.cu (re.kids.take (i+1))=Re.cu (re.kids.take i)+k.dc:=by rw[bj hk,iS];simp [Re.cu]
   have dt:=ih k hm (fU k hm);unfold dv at dt;simp only[i64]at dt;have Uw:min (min (Re.cu (re.kids.take i):Int) 8193+min (k.dc:Int) 8193) 8193=min (Re.cu (re.kids.take (i+1)):Int) 8193:=ae;have w1:IntKind.i64.wrap (min (Re.cu (re.kids.take i):Int) 8193+min (k.dc:Int) 8193)=min (Re.cu (re.kids.take i):Int) 8193+min (k.dc:Int) 8193:=bF _ ae;simp only[zX,simprocAttr,aI,Re.ah re,aiZ,ai2,iD,bD,h1,h3,lB,l7,oR,i64,aH,hi0,aB,hk,aiW,aiY,ai3,ai1];refine bO dt ?_;simp only[zX,simprocAttr,aI,Re.ah re,aiZ,ai2,iD,bD,h1,h3,lB,l7,oR,i64,w1,Uw];refine⟨re.kids.length-(i+1),_,_,ae,bJ.cut (s':=[aI re]) 1 ae (by simp [aI,Re.ah re,iD,bD]) (by simp [aI,bc,Re.ah re,ak]) [1,3,18,19,20] (by simp [bX,aY,ak,h1,h3,lB,l7,oR,i64]),i+1,rfl,aB,?_,?_,?_,?_,?_,by simp [aI,Re.ah re,iD,bD]⟩ <;> (try simp only[zU,gV,cy,cJ,dV,reduceIte])
   ·exact h1
   ·exact lB
   ·exact l7
   ·rw[bF _ ae];rfl
  ·have dY:i=re.kids.length:=by omega
   subst dY;rw[ajt]at h3;rw[hz];simp only[zX,simprocAttr,aI,Re.ah re,aiZ,ai2,iD,bD,h1,h3,lB,l7,oR,i64,o,ajZ]
 case inr.inr.inr.inr.inr.inl =>
  have hz:dv re=min (min (Re.cu re.kids:Int) 8193+2*((re.kids.length:Int)-1)) 8193:=by have:=q2 o;rw[dv,Re.gj,nK,bd,bd,be o];omega
  refine bk Try.func71 Try.ntmps71 Try.results71 0 1852271 ?_;simp only[zI,simprocAttr,aq re,iD,bD,o];refine ay (λn e s=>∃i:Nat,n=re.kids.length-i/\i<=re.kids.length/\e 1=.rf 0 0 0 0/\e 3=i64 (min (Re.cu (re.kids.take i):Int) 8193)/\e 18=.d (.sl (re.kids.map Re.cells))/\e 19=i64 re.kids.length/\e 20=i64 i/\s=[aI re]) ⟨_,_,_,bJ.refl,0,rfl,ae,rfl,rfl,rfl,rfl,rfl,by simp [aI,Re.ah re,iD,bD,o]⟩ ?_;rintro n e s ⟨i,rfl,hi,h1,h3,lB,l7,oR,rfl⟩;rcases ajr i re.kids.length with aB|iA
  ·obtain⟨k,hk⟩:∃k,re.kids[i]?=some k:=bZ aB;have hm:=ai4 hk;have aH:(i:Int)<(re.kids.length:Int):=ae;have hi0:(0:Int)<=(i:Int):=ae;have GB:Re.cu (re.kids.take (i+1))=Re.cu (re.kids.take i)+k.dc:=by rw[bj hk,iS];simp [Re.cu]
   have dt:=ih k hm (fU k hm);unfold dv at dt;simp only[i64]at dt;have Uw:min (min (Re.cu (re.kids.take i):Int) 8193+min (k.dc:Int) 8193) 8193=min (Re.cu (re.kids.take (i+1)):Int) 8193:=ae;have w1:IntKind.i64.wrap (min (Re.cu (re.kids.take i):Int) 8193+min (k.dc:Int) 8193)=min (Re.cu (re.kids.take i):Int) 8193+min (k.dc:Int) 8193:=bF _ ae;simp only[zX,simprocAttr,aI,Re.ah re,aiZ,ai2,iD,bD,h1,h3,lB,l7,oR,i64,aH,hi0,aB,hk,aiW,aiY,ai3,ai1];refine bO dt ?_;simp only[zX,simprocAttr,aI,Re.ah re,aiZ,ai2,iD,bD,h1,h3,lB,l7,oR,i64,w1,Uw];refine⟨re.kids.length-(i+1),_,_,ae,bJ.cut (s':=[aI re]) 1 ae (by simp [aI,Re.ah re,iD,bD]) (by simp [aI,bc,Re.ah re,ak]) [1,3,18,19,20] (by simp [bX,aY,ak,h1,h3,lB,l7,oR,i64]),i+1,rfl,aB,?_,?_,?_,?_,?_,by simp [aI,Re.ah re,iD,bD]⟩ <;> (try simp only[zU,gV,cy,cJ,dV,reduceIte])
   ·exact h1
   ·exact lB
   ·exact l7
   ·rw[bF _ ae];rfl
  ·have dY:i=re.kids.length:=by omega
   subst dY;rw[ajt]at h3;rw[hz];have w1:IntKind.i64.wrap ((re.kids.length:Int)-1)=(re.kids.length:Int)-1:=bF _ ae;have w2:IntKind.i64.wrap (2*((re.kids.length:Int)-1))=2*((re.kids.length:Int)-1):=bF _ ae;have w3:IntKind.i64.wrap (min (Re.cu re.kids:Int) 8193+2*((re.kids.length:Int)-1))=min (Re.cu re.kids:Int) 8193+2*((re.kids.length:Int)-1):=bF _ ae;simp only[zX,simprocAttr,aI,Re.ah re,aiZ,ai2,iD,bD,h1,h3,lB,l7,oR,i64,o,ajZ,aiW,w1,w2,w3]
 case inr.inr.inr.inr.inr.inr.inl =>
  obtain⟨x,hx⟩:=QF (.inr o);have hz:dv re=min (min (x.dc:Int) 8193+2) 8193:=by rw[dv,Re.gj,nK,bd,bd,bd,be o,hx];simp only[Re.cu];omega
  rw[hz];have dt:=ih x (by rw[hx];simp) (fU x (by rw[hx];simp));unfold dv at dt;simp only[i64]at dt;have vV:re.kids[0]?=some x:=by rw[hx];rfl
  have dZ:(0:Int)<(re.kids.length:Int):=by rw[hx];simp
  have w1:IntKind.i64.wrap (min (x.dc:Int) 8193+2)=min (x.dc:Int) 8193+2:=bF _ ae;refine bk Try.func71 Try.ntmps71 Try.results71 0 1852271 ?_;simp only[zI,simprocAttr,aq re,iD,bD,o,aiW,dZ,vV];refine bO dt ?_;simp only[zI,simprocAttr,aq re,iD,bD,o,w1]
 case inr.inr.inr.inr.inr.inr.inr.inl =>
  obtain⟨x,hx⟩:=QF (.inl o);have hz:=OT (m:=re.mn) (x:=re.mx) (z:=x.dc) ae q4 (q8 o);rw[<- Px o hx q4 (q8 o)]at hz;have dt:=ih x (by rw[hx];simp) (fU x (by rw[hx];simp));have vV:re.kids[0]?=some x:=by rw[hx];rfl
  have dZ:(0:Int)<(re.kids.length:Int):=by rw[hx];simp
  unfold dv at dt ⊢;rw[<- hz];have X7:0<=min (x.dc:Int) 8193:=ae;have hy1:min (x.dc:Int) 8193<=8193:=ae;generalize min (x.dc:Int) 8193=y at *;simp only[i64]at dt;have e1:0<=re.mn*y/\re.mn*y<=32*y:=⟨akj q4 X7,ajG q5 X7⟩
  have w1:IntKind.i64.wrap (re.mn*y)=re.mn*y:=bF _ ae;by_cases hm:re.mx=-1
  ·have w2:IntKind.i64.wrap (y+2)=y+2:=bF _ ae;have w3:IntKind.i64.wrap (re.mn*y+(y+2))=re.mn*y+(y+2):=bF _ ae;rw[be hm];have mD:decide (re.mx=-1)=true:=bi hm;refine bk Try.func71 Try.ntmps71 Try.results71 0 1852271 ?_;simp only[zI,simprocAttr,aq re,iD,bD,o,aiW,dZ,vV];refine bO dt ?_;simp only[zI,simprocAttr,aq re,iD,bD,o,mD,w1,w2,w3]
  ·have e2:0<=(re.mx-re.mn)*(y+1)/\(re.mx-re.mn)*(y+1)<=32*(y+1):=by obtain⟨h1,h2⟩:=(q8 o).resolve_left hm;exact⟨akj ae ae,ajG ae ae⟩
   have w2:IntKind.i64.wrap (y+1)=y+1:=bF _ ae;have w3:IntKind.i64.wrap (re.mx-re.mn)=re.mx-re.mn:=bF _ ae;have w4:IntKind.i64.wrap ((re.mx-re.mn)*(y+1))=(re.mx-re.mn)*(y+1):=bF _ ae;have w5:IntKind.i64.wrap (re.mn*y+(re.mx-re.mn)*(y+1))=re.mn*y+(re.mx-re.mn)*(y+1):=bF _ ae;rw[ap hm];have mD:decide (re.mx=-1)=false:=ce hm;refine bk Try.func71 Try.ntmps71 Try.results71 0 1852271 ?_;simp only[zI,simprocAttr,aq re,iD,bD,o,aiW,dZ,vV];refine bO dt ?_;simp only[zI,simprocAttr,aq re,iD,bD,o,mD,w1,w2,w3,w4,w5]
 all_goals rw[jf ae]
 all_goals
  refine bk Try.func71 Try.ntmps71 Try.results71 0 1852271 ?_;simp only[zI,simprocAttr,aq re,iD,bD,o];rfl
def Tn (R:Nat->Prop) (i:au):Prop:=(0<=i.op/\i.op<=5)/\(i.op=1->∃re k,i.node=some (re,k)/\re.op=1/\re.set.length<=1000000) /\
 (i.op=5->∃re k,i.node=some (re,k)/\re.op≠1/\(re.op=11->0<=re.n/\re.n<=5)/\(re.op≠11->R k))
def JA (B:Nat) (i:au):Prop:=0<=i.x/\i.x<=B/\0<=i.y/\i.y<=B
def CP (R:Nat->Prop) (C:List au):Prop:=(∀i∈C,Tn R i)/\∀i∈C,JA C.length i
theorem JA.mono {B B':Nat} (h:B<=B') {i:au} (k:JA B i):JA B' i:=⟨k.1,Int.le_trans k.2.1 ae,k.2.2.1,Int.le_trans k.2.2.2 ae⟩
theorem CP.add (h:CP R C) {i:au} (hp:Tn R i) (hq:JA (C.length+1) i):CP R (C++[i]):=by
 refine⟨λj hj=>?_,λj hj=>?_⟩
 ·rcases List.mem_append.1 hj with hj|hj
  ·exact h.1 j hj
  ·rw[List.mem_singleton.1 hj];exact hp
 ·rw[ai6,ajz];rcases List.mem_append.1 hj with hj|hj
  ·exact(h.2 j hj).mono ae
  ·rw[List.mem_singleton.1 hj];exact hq
theorem CP.xy (h:CP R C) {c:Nat}{x y:Int} (hx:0<=x/\x<=C.length) (hy:0<=y/\y<=C.length):CP R (x9 C c x y):=by
 refine⟨λj hj=>?_,λj hj=>?_⟩
 ·unfold x9 at hj;by_cases hc:c<C.length
  ·rcases aj4 hj with hj|rfl
   ·exact h.1 j hj
   ·have hm:bz C c∈C:=by unfold bz;rw[aja,ajg hc];exact List.getElem_mem hc
    have h0:=h.1 _ hm;exact h0
  ·have hj2:j∈C:=by rw[List.set_eq_of_length_le ae]at hj;exact hj
   exact h.1 j hj2
 ·rw[oI];unfold x9 at hj;rcases aj4 hj with hj|rfl
  ·exact h.2 j hj
  ·exact⟨hx.1,hx.2,hy.1,hy.2⟩
theorem abg (h:CP R C) (c:Nat):0<=(bz C c).y/\(bz C c).y<=C.length:=by
 by_cases hc:c<C.length
 ·have hm:bz C c∈C:=by unfold bz;rw[aja,ajg hc];exact List.getElem_mem hc
  exact(h.2 _ hm).2.2
 ·have:bz C c=⟨0,0,0,0,none⟩:=by unfold bz;rw[aja,ajH ae];rfl
  rw[this];simp
theorem CP.xs:∀(J:List Nat) {C:List au}{E:Nat},CP R C->C.length=E->CP R (J.foldl (xO E) C)
 |[],_,_,h,_=>h
 |c::J,C,E,h,hE=>by rw[akg];refine CP.xs J ?_ (by rw[IZ];exact hE);exact h.xy ⟨ae,ae⟩ (abg h c)
theorem CP.Nw (mode:Int):∀(J:List Nat) {C:List au},CP R C->(∀c∈J,c<C.length)->CP R (J.foldl (oC mode) C)
 |[],_,h,_=>h
 |c::J,C,h,hJ=>by
  rw[akg];have hc:=hJ c aj;refine CP.Nw mode J ?_ (λd hd=>by rw[J3];exact hJ d (by simp [hd]));unfold oC;split
  ·exact h.xy ⟨ae,ae⟩ ⟨ae,ae⟩
  ·exact h.xy ⟨ae,ae⟩ ⟨ae,ae⟩
theorem EV (x y:Int):Tn R (cX x y):=⟨by simp [cX],λh=>absurd h (by simp [cX]),λh=>absurd h (by simp [cX])⟩
theorem Lz (x:Int):Tn R (ku x):=⟨by simp [ku],λh=>absurd h (by simp [ku]),λh=>absurd h (by simp [ku])⟩
theorem Ms (x:Int):Tn R (jt x):=⟨by simp [jt],λh=>absurd h (by simp [jt]),λh=>absurd h (by simp [jt])⟩
theorem CP.iter{f:List au->List au} (hf:∀C,CP R C->CP R (f C)):∀n C,CP R C->CP R (iR f n C)
 |0,_,h=>h
 |n+1,C,h=>hf _ (CP.iter hf n C h)
theorem Pp (R:Nat->Prop) (re:Re):re.every l5=true->∀k,(∀j,k<=j->j<k+re.looks->R j)->∀C,CP R C->CP R (re.emit k C):=by
 refine Re.ind (Q:=λre=>re.every l5=true->∀k,(∀j,k<=j->j<k+re.looks->R j)->∀C,CP R C->CP R (re.emit k C)) (λre ih hs k hR C hC=>?_) re;obtain⟨ef,fU⟩:=(Re.av re).1 hs;obtain⟨q1,q2,q3,q4,q5,q6,q7,q8,q9,ji,jh,nS,Ao,q14,q15⟩:=iO.1 ef;have q0:∀{n:Nat},JA (n+1) (cX 0 0):=λ{n}=>⟨by simp [cX],by simp [cX];omega,by simp [cX],by simp [cX];omega⟩
 rw[Re.lg];by_cases o1:re.op=1
 ·rw[be o1];exact hC.add ⟨by simp [sL],λ_=>⟨re,k,rfl,o1,q15⟩,λh=>absurd h (by simp [sL])⟩ ⟨by simp [sL],by simp [sL];omega,by simp [sL],by simp [sL];omega⟩
 rw[ap o1];by_cases o7:re.op=11\/re.op=7\/re.op=8
 ·rw[be o7];refine hC.add ⟨by simp [lR],λh=>absurd h (by simp [lR]),λ_=>⟨re,k,rfl,o1,λh=>⟨q9,nS h⟩,λh=>hR k (ajc _) ?_⟩⟩ ⟨by simp [lR],by simp [lR];omega,by simp [lR],by simp [lR];omega⟩;rw[Re.jg,be (o7.resolve_left h)];omega
 rw[ap o7];have MU:re.looks=Re.aV re.kids:=by rw[Re.jg,bd,ai7]
 rw[MU]at hR;have hL:∀(l:List Re) (k:Nat) (C:List au),(∀x∈l,x∈re.kids)->(∀j,k<=j->j<k+Re.aV l->R j)->CP R C->CP R (Re.db l k C):=by
  intro l;induction l with
  |nil=>intro k C _ _ h;exact h
  |cons x l D0 =>
   intro k C hm hR h;rw[Re.aV]at hR;rw[Re.db];exact D0 _ _ (λy hy=>hm y (by simp [hy])) (λj h1 h2=>hR j ae ae) (ih x (hm x aj) (fU x (hm x aj)) k (λj h1 h2=>hR j h1 ae) C h)
 by_cases o2:re.op=2
 ·rw[be o2];exact hL _ _ _ (λ_ h=>h) hR hC
 rw[ap o2];by_cases o3:re.op=3
 ·rw[be o3];have hA:∀(l:List Re) (k:Nat) (C:List au) (J:List Nat),(∀x∈l,x∈re.kids)->(∀j,k<=j->j<k+Re.aV l->R j)->CP R C->CP R (Re.mv l k C J):=by
   intro l;induction l with
   |nil=>intro k C J _ _ h;exact h
   |cons x l D0 =>
    intro k C J hm hR h;rw[Re.aV]at hR;have hx:=λC h=>ih x (hm x aj) (fU x (hm x aj)) k (λj h1 h2=>hR j h1 ae) C h;cases l with
    |nil =>
     rw[Re.mv];exact CP.xs J (hx C h) rfl
    |cons y l =>
     rw[Re.mv];have h2:=hx _ (h.add (EV 0 0) q0);have y9:=Re.eO x k (C++[cX 0 0]);rw[ai6,ajz]at y9;generalize x.emit k (C++[cX 0 0])=D at *;have h3:CP R (D++[ku 0]):=h2.add (Lz 0) ⟨by simp [ku],by simp [ku];omega,by simp [ku],by simp [ku];omega⟩;refine D0 _ _ _ (λz hz=>hm z (by simp only[ajF]at hz ⊢;exact .inr hz)) (λj h1 h2=>hR j ae ae) (h3.xy ?_ ?_)
     ·rw[ai6,ajz];exact⟨ae,ae⟩
     ·rw[ai6,ajz];exact⟨ae,ae⟩
   done
  exact hA _ _ _ _ (λ_ h=>h) hR hC
 rw[ap o3];by_cases o5:re.op=5
 ·rw[be o5];exact(hL _ _ _ (λ_ h=>h) hR (hC.add (Ms _) ⟨by simp [jt],by simp [jt];omega,by simp [jt],by simp [jt];omega⟩)).add (Ms _) ⟨by simp [jt],by simp [jt];omega,by simp [jt],by simp [jt];omega⟩
 rw[ap o5];by_cases o4:re.op=4
 ·rw[be o4];have hf:∀C,CP R C->CP R (Re.db re.kids k C):=λC h=>hL _ _ _ (λ_ h=>h) hR h;have YB:∀C,(Re.db re.kids k C).length=C.length+Re.cu re.kids:=λC=>Re.wv _ _ _;have h1:=CP.iter hf re.mn.toNat C hC;unfold mG;simp only;generalize iR (λC=>Re.db re.kids k C) re.mn.toNat C=C1 at *;split
  ·have h2:=hf _ (h1.add (EV 0 0) q0);have y9:=YB (C1++[cX 0 0]);rw[ai6,ajz]at y9;generalize Re.db re.kids k (C1++[cX 0 0])=D at *;refine CP.Nw _ _ (h2.add (Lz _) ⟨by simp [ku],by simp [ku];omega,by simp [ku],by simp [ku];omega⟩) (λc hc=>?_);rw[List.mem_singleton]at hc;rw[ai6,ajz];omega
  ·have h2:CP R (gv (λC=>Re.db re.kids k C) (re.mx-re.mn).toNat C1).1:=by
    have:∀n,CP R (gv (λC=>Re.db re.kids k C) n C1).1:=by
     intro n;induction n with
     |zero=>exact h1
     |succ n Y3=>exact hf _ (Y3.add (EV 0 0) q0)
    exact this _
   refine CP.Nw _ _ h2 (λc hc=>?_);have:∀n,∀c∈(gv (λC=>Re.db re.kids k C) n C1).2,c<(gv (λC=>Re.db re.kids k C) n C1).1.length:=by
    intro n;induction n with
    |zero=>intro c hc;simp [gv]at hc
    |succ n Y3 =>
     intro c hc;simp only[gv,List.mem_append,List.mem_singleton]at hc;simp only[gv,YB,ai6,ajz];rcases hc with hc|rfl
     ·have:=Y3 c hc;omega
     ·omega
   exact this _ c hc
 rw[ap o4];exact hC
end Go.Proofs.Ytfmdmlfhigocaaa
