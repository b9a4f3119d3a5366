/- A part of the proof (K2 O20 O26). -/
import Derived.Test.YtjjfioalgbecmaaGreatOQ31
set_option linter.unusedSimpArgs false
set_option linter.unusedVariables false
open Nat renaming reduceShiftRight → jN, reduceMod → oN, reduceEqDiff → oV, reduceBEq → pZ
set_option maxRecDepth 100000
set_option maxHeartbeats 80000000
namespace Go.Proofs.YtjjfioalgbecmaaGreat
open Go.VL Go.Proofs.Tryz
variable{re:Re}{R:Nat->Prop}{C:List aq}
def RG (re:Re):Bool:=decide ((re.op=4\/re.op=5->1<=re.kids.length)/\(re.op=3->2<=re.kids.length)/\re.kids.length<=1000/\re.set.length<=1000000/\0<=re.mn/\re.mn<=32/\-1<=re.mx/\re.mx<=32/\(re.mx=-1\/re.mx=0\/re.mn<=re.mx)/\l9 re.n/\re.n<=1000000/\-1000000<=re.n)
theorem fU:RG re=true ↔ ((re.op=4\/re.op=5->1<=re.kids.length)/\(re.op=3->2<=re.kids.length)/\re.kids.length<=1000/\re.set.length<=1000000/\0<=re.mn/\re.mn<=32/\-1<=re.mx/\re.mx<=32/\(re.mx=-1\/re.mx=0\/re.mn<=re.mx)/\l9 re.n/\re.n<=1000000/\-1000000<=re.n):=decide_eq_true_iff
theorem Wy (re:Re):∀a:List Int,re.every RG=true->re.size<=1000000->a.length+re.size<=2000000->aM prog 37 [sN re,.d (ao a)] (bV (re.comp a)):=by
 induction re using Re.ind with
 |h re ih =>
 intro a hs hz ha;obtain⟨dM,jA⟩:=(Re.aD re).1 hs;obtain⟨q1,q2,q3,q4,q5,q6,q7,q8,q9,jc⟩:=fU.1 dM;have eZ:=Re.size_eq re;have qq:∀a':List Int,a'.length<=a.length+1->∀k∈re.kids,aM prog 37 [sN k,.d (ao a')] (bV (k.comp a')):=λa' KN k hk =>
  ih k hk a' (jA k hk) (by have:=Re.de hk;omega) (by have:=Re.de hk;omega)
 by_cases c1:re.op=4/\(re.mode=2\/Re.mZ re.kids=true)
 ·rw[Re.nz,be c1];obtain⟨o4,c1⟩:=c1;obtain⟨k,l,hk⟩:=List.exists_cons_of_length_pos (q1 (.inl o4));have hm:k∈re.kids:=by rw[hk];simp
  have m7:re.kids[0]?=some k:=by rw[hk];rfl
  have hlen:(0:Int)<(re.kids.length:Int):=by rw[hk];simp
  have hn:=jn k (by have:=Re.de hm;omega);rw[hk]at c1;by_cases cm:re.mode=2
  ·refine bo func37 ntmps37 results37 0 247 ?_;simp only[zI,simprocAttr,av re,iD,bD,o4,cm];rfl
  ·have cn:k.sK=true:=c1.resolve_left cm;rw[cn]at hn;refine bo func37 ntmps37 results37 0 247 ?_;simp only[zI,simprocAttr,av re,iD,bD,o4,cm,m7,hlen];refine dY hn ?_;simp only[zI,simprocAttr,av re,iD,bD,bV]
 have K6:¬(re.op=4/\(re.mode=2\/Re.mZ re.kids=true)):=c1;by_cases c2:re.op=5
 ·have hh:=YQ a re.n ae;by_cases c3:re.n∈a
  ·rw[Re.nz,ap c1,be ⟨c2,c3⟩];rw[bi c3]at hh;refine bo func37 ntmps37 results37 0 247 ?_;simp only[zI,simprocAttr,av re,iD,bD,c2,ao];refine dY hh ?_;simp only[zI,simprocAttr,av re,iD,bD,bV,c2]
  ·rw[Re.nz,ap c1,ap (λh=>c3 h.2),bd,be c2];rw[ce c3]at hh;have sE:∀e∈(a.map λx=>[iD x]).map (λx=>x.map V.d),e.length=1:=λe he=>by obtain⟨x,hx,rfl⟩:=List.mem_map.1 he;obtain⟨p,_,rfl⟩:=List.mem_map.1 hx;rfl
   refine bo func37 ntmps37 results37 0 247 ?_;simp only[zI,simprocAttr,av re,iD,bD,c2,ao];refine dY hh ?_;simp only[zI,simprocAttr,av re,iD,bD,bV,c2,ajY];refine aX (fW 6 1 rfl) ?_;refine cu mix [] [(2,[1],[1]),(6,[1],[1])] ?_;simp only[zI,simprocAttr,av re,iD,bD,bV,c2];refine⟨rfl,sE,ae,rfl,λe he=>by rw[List.mem_singleton.1 he];rfl,⟨ae,ae⟩,?_⟩;have hL:=qq (a++[re.n]) ak;generalize haa:a++[re.n]=aa at *;refine aw (λn e s=>∃i:Nat,n=re.kids.length-i/\i<=re.kids.length/\e 1=.d (ao aa)/\e 2=.rf 0 0 0 0/\e 7=i64 i/\(∀x∈re.kids.take i,x.comp aa=true)/\s=[bf re])
    ⟨_,_,_,Zf (s':=[bf re]) 1 (aa.map λx=>[iD x]) 1 [1,2,7] rfl rfl ?_ ?_ ae (ajZ _) ?_ (by simp [bf,Re.ah re,aK,aj,iD,bD]) rfl,0,rfl,ae,?_,?_,?_,ak,rfl⟩ ?_
   ·rw[akJ,<- haa,akb ak,akb ak];simp [iD]
   ·simp
   ·simp [bf,Re.ah re,iD,bD,c2]
   ·rfl
   ·rfl
   ·rfl
   rintro n e s ⟨i,rfl,hi,h1,h2,h7,bX,rfl⟩;simp only[ao]at h1;rcases akd i re.kids.length with az|gx
   ·obtain⟨k,hk⟩:∃k,re.kids[i]?=some k:=cc az;have hm:=List.mem_of_getElem? hk;have Pm:=hL k hm;simp only[ao]at Pm;have aA:(i:Int)<re.kids.length:=ae;simp only[zI,simprocAttr,bf,Re.ah re,ajR,ajV,iD,bD,h1,h2,h7,aA,hk];refine dD Pm (by simp [aj,aj.go,av]) Vp ?_;cases fm:k.comp aa with
    |true =>
     simp only[zI,simprocAttr,iD,bD,bV,h1,h2,h7,fm,aj0];refine⟨re.kids.length-(i+1),_,_,ae,bA.refl,i+1,rfl,az,?_,?_,?_,?_,rfl⟩ <;> (try simp only[zU,pZ,jN,oN,oV,reduceIte])
     ·exact h1
     ·exact h2
     ·rw[bG _ ae];rfl
     ·intro x hx;rcases cy hk hx with h|rfl
      ·exact bX x h
      ·exact fm
    |false =>
     simp only[zI,simprocAttr,iD,bD,bV,h1,h2,h7,fm,aj2];have:(re.kids.all λk=>k.comp aa)=false:=by rw[alg];exact⟨k,hm,by simp [fm]⟩
     rw[this]
   ·have dX:i=re.kids.length:=by omega
    subst dX;have aA:¬(re.kids.length:Int)<re.kids.length:=ae;rw[akg]at bX;have:(re.kids.all λk=>k.comp aa)=true:=by rw[aj3];exact bX
    rw[this];simp only[zI,simprocAttr,bf,Re.ah re,ajR,ajV,iD,bD,bV,h1,h2,h7,aA]
 ·have hL:=qq a ae;by_cases c3:5<re.op/\re.op≠11
  ·rw[Re.nz,ap c1,ap (λh=>c2 h.1),be c3];have c4:re.op≠4:=ae;have c5:=c3.1;have c6:=c3.2;refine bo func37 ntmps37 results37 0 247 ?_;simp only[zI,simprocAttr,av re,iD,bD,bV,c2,c4,c5,c6,gt_iff_lt,ne_eq,not_false_eq_true]
  ·rw[Re.nz,ap c1,ap (λh=>c2 h.1),ap c3,ap c2];generalize a=aa at *;by_cases o4:re.op=4
   ·have cm:re.mode≠2:=λh=>c1 ⟨o4,.inl h⟩;obtain⟨k,l,hk⟩:=List.exists_cons_of_length_pos (q1 (.inl o4));have cn:k.sK=false:=by
     cases h:k.sK with
     |false=>rfl
     |true=>exact absurd ⟨o4,.inr (by rw[hk];exact h)⟩ c1
    have hm:k∈re.kids:=by rw[hk];simp
    have m7:re.kids[0]?=some k:=by rw[hk];rfl
    have hlen:(0:Int)<(re.kids.length:Int):=by rw[hk];simp
    have hn:=jn k (by have:=Re.de hm;omega);rw[cn]at hn;refine bo func37 ntmps37 results37 0 247 ?_;simp only[zI,simprocAttr,av re,iD,bD,o4,cm,m7,hlen];refine dY hn ?_;simp only[zI,simprocAttr,av re,iD,bD,bV,o4,ajY,gt_iff_lt];refine aw (λn e s=>∃i:Nat,n=re.kids.length-i/\i<=re.kids.length/\e 1=.d (ao aa)/\e 2=.rf 0 0 0 0/\e 7=i64 i/\(∀x∈re.kids.take i,x.comp aa=true)/\s=[bf re])
     ⟨_,_,_,bA.refl,0,rfl,ae,rfl,rfl,rfl,ak,by simp [bf,Re.ah re,iD,bD,o4]⟩ ?_
    rintro n e s ⟨i,rfl,hi,h1,h2,h7,bX,rfl⟩;simp only[ao]at h1;rcases akd i re.kids.length with az|gx
    ·obtain⟨k,hk⟩:∃k,re.kids[i]?=some k:=cc az;have hm:=List.mem_of_getElem? hk;have Pm:=hL k hm;simp only[ao]at Pm;have aA:(i:Int)<re.kids.length:=ae;simp only[zI,simprocAttr,bf,Re.ah re,ajR,ajV,iD,bD,h1,h2,h7,aA,hk];refine dD Pm (by simp [aj,aj.go,av]) Vp ?_;cases fm:k.comp aa with
     |true =>
      simp only[zI,simprocAttr,iD,bD,bV,h1,h2,h7,fm,aj0];refine⟨re.kids.length-(i+1),_,_,ae,bA.refl,i+1,rfl,az,?_,?_,?_,?_,rfl⟩ <;> (try simp only[zU,pZ,jN,oN,oV,reduceIte])
      ·exact h1
      ·exact h2
      ·rw[bG _ ae];rfl
      ·intro x hx;rcases cy hk hx with h|rfl
       ·exact bX x h
       ·exact fm
     |false =>
      simp only[zI,simprocAttr,iD,bD,bV,h1,h2,h7,fm,aj2];have:(re.kids.all λk=>k.comp aa)=false:=by rw[alg];exact⟨k,hm,by simp [fm]⟩
      rw[this]
    ·have dX:i=re.kids.length:=by omega
     subst dX;have aA:¬(re.kids.length:Int)<re.kids.length:=ae;rw[akg]at bX;have:(re.kids.all λk=>k.comp aa)=true:=by rw[aj3];exact bX
     rw[this];simp only[zI,simprocAttr,bf,Re.ah re,ajR,ajV,iD,bD,bV,h1,h2,h7,aA]
   ·by_cases c5:5<re.op
    ·have c6:re.op=11:=by omega
     refine bo func37 ntmps37 results37 0 247 ?_;simp only[zI,simprocAttr,av re,iD,bD,bV,c6,ajY,gt_iff_lt,ne_eq,not_true_eq_false];refine aw (λn e s=>∃i:Nat,n=re.kids.length-i/\i<=re.kids.length/\e 1=.d (ao aa)/\e 2=.rf 0 0 0 0/\e 7=i64 i/\(∀x∈re.kids.take i,x.comp aa=true)/\s=[bf re])
      ⟨_,_,_,bA.refl,0,rfl,ae,rfl,rfl,rfl,ak,by simp [bf,Re.ah re,iD,bD,c6]⟩ ?_
     rintro n e s ⟨i,rfl,hi,h1,h2,h7,bX,rfl⟩;simp only[ao]at h1;rcases akd i re.kids.length with az|gx
     ·obtain⟨k,hk⟩:∃k,re.kids[i]?=some k:=cc az;have hm:=List.mem_of_getElem? hk;have Pm:=hL k hm;simp only[ao]at Pm;have aA:(i:Int)<re.kids.length:=ae;simp only[zI,simprocAttr,bf,Re.ah re,ajR,ajV,iD,bD,h1,h2,h7,aA,hk];refine dD Pm (by simp [aj,aj.go,av]) Vp ?_;cases fm:k.comp aa with
      |true =>
       simp only[zI,simprocAttr,iD,bD,bV,h1,h2,h7,fm,aj0];refine⟨re.kids.length-(i+1),_,_,ae,bA.refl,i+1,rfl,az,?_,?_,?_,?_,rfl⟩ <;> (try simp only[zU,pZ,jN,oN,oV,reduceIte])
       ·exact h1
       ·exact h2
       ·rw[bG _ ae];rfl
       ·intro x hx;rcases cy hk hx with h|rfl
        ·exact bX x h
        ·exact fm
      |false =>
       simp only[zI,simprocAttr,iD,bD,bV,h1,h2,h7,fm,aj2];have:(re.kids.all λk=>k.comp aa)=false:=by rw[alg];exact⟨k,hm,by simp [fm]⟩
       rw[this]
     ·have dX:i=re.kids.length:=by omega
      subst dX;have aA:¬(re.kids.length:Int)<re.kids.length:=ae;rw[akg]at bX;have:(re.kids.all λk=>k.comp aa)=true:=by rw[aj3];exact bX
      rw[this];simp only[zI,simprocAttr,bf,Re.ah re,ajR,ajV,iD,bD,bV,h1,h2,h7,aA]
    ·refine bo func37 ntmps37 results37 0 247 ?_;simp only[zI,simprocAttr,av re,iD,bD,bV,o4,c5,c2,ajY,gt_iff_lt,ne_eq,not_true_eq_false];refine aw (λn e s=>∃i:Nat,n=re.kids.length-i/\i<=re.kids.length/\e 1=.d (ao aa)/\e 2=.rf 0 0 0 0/\e 7=i64 i/\(∀x∈re.kids.take i,x.comp aa=true)/\s=[bf re])
      ⟨_,_,_,bA.refl,0,rfl,ae,rfl,rfl,rfl,ak,by simp [bf,Re.ah re,iD,bD,o4]⟩ ?_
     rintro n e s ⟨i,rfl,hi,h1,h2,h7,bX,rfl⟩;simp only[ao]at h1;rcases akd i re.kids.length with az|gx
     ·obtain⟨k,hk⟩:∃k,re.kids[i]?=some k:=cc az;have hm:=List.mem_of_getElem? hk;have Pm:=hL k hm;simp only[ao]at Pm;have aA:(i:Int)<re.kids.length:=ae;simp only[zI,simprocAttr,bf,Re.ah re,ajR,ajV,iD,bD,h1,h2,h7,aA,hk];refine dD Pm (by simp [aj,aj.go,av]) Vp ?_;cases fm:k.comp aa with
      |true =>
       simp only[zI,simprocAttr,iD,bD,bV,h1,h2,h7,fm,aj0];refine⟨re.kids.length-(i+1),_,_,ae,bA.refl,i+1,rfl,az,?_,?_,?_,?_,rfl⟩ <;> (try simp only[zU,pZ,jN,oN,oV,reduceIte])
       ·exact h1
       ·exact h2
       ·rw[bG _ ae];rfl
       ·intro x hx;rcases cy hk hx with h|rfl
        ·exact bX x h
        ·exact fm
      |false =>
       simp only[zI,simprocAttr,iD,bD,bV,h1,h2,h7,fm,aj2];have:(re.kids.all λk=>k.comp aa)=false:=by rw[alg];exact⟨k,hm,by simp [fm]⟩
       rw[this]
     ·have dX:i=re.kids.length:=by omega
      subst dX;have aA:¬(re.kids.length:Int)<re.kids.length:=ae;rw[akg]at bX;have:(re.kids.all λk=>k.comp aa)=true:=by rw[aj3];exact bX
      rw[this];simp only[zI,simprocAttr,bf,Re.ah re,ajR,ajV,iD,bD,bV,h1,h2,h7,aA]
def iR (re:Re):Int:=min (re.eC:Int) 8193
def oO (re:Re):Bool:=decide ((re.op=4\/re.op=5\/re.op=7\/re.op=8->re.kids.length=1)/\(re.op=3->2<=re.kids.length)/\re.kids.length<=1000/\0<=re.mn/\re.mn<=32/\-1<=re.mx/\re.mx<=32/\(re.op=4->re.mx=-1\/(1<=re.mx/\re.mn<=re.mx))/\0<=re.n/\re.n<=9/\(re.op=5->1<=re.n)/\(re.op=11->re.n<=5)/\0<=re.op/\re.op<=11/\re.set.length<=1000000)
theorem lN:oO re=true ↔ (re.op=4\/re.op=5\/re.op=7\/re.op=8->re.kids.length=1)/\(re.op=3->2<=re.kids.length)/\re.kids.length<=1000/\0<=re.mn/\re.mn<=32/\-1<=re.mx/\re.mx<=32/\(re.op=4->re.mx=-1\/(1<=re.mx/\re.mn<=re.mx))/\0<=re.n/\re.n<=9/\(re.op=5->1<=re.n)/\(re.op=11->re.n<=5)/\0<=re.op/\re.op<=11/\re.set.length<=1000000:=by unfold oO;rw[decide_eq_true_eq]
theorem DG (h:re.every oO=true):re.every NR=true:=iq (λr h=>by
 obtain⟨q1,q2,q3,q4,q5,q6,q7,q8,q9,jc,_⟩:=lN.1 h;exact rN.2 ⟨λh=>q1 ae,λh=>by have:=q2 h;omega,ae,q4,ae,q6,ae,q9,ae⟩) re h
theorem VC {m x z:Int} (hz:0<=z) (m0:0<=m) (h:x=-1\/(1<=x/\m<=x)) :
  min (if x=-1 then m*min z 8193+(min z 8193+2) else m*min z 8193+(x-m)*(min z 8193+1)) 8193=min (if x=-1 then m*z+z+2 else m*z+(x-m)*(z+1)) 8193:=by
 by_cases hc:z<=8193
 ·rw[Int.min_eq_left hc];by_cases hx:x=-1
  ·rw[be hx,be hx,Int.add_assoc]
  ·rw[ap hx,ap hx]
 ·rw[show min z 8193=8193 by omega];by_cases hx:x=-1
  ·rw[be hx,be hx];have h1:0<=m*8193:=ak4 m0 ae;have h2:0<=m*z:=ak4 m0 hz;omega
  ·rw[ap hx,ap hx];obtain⟨h1,h2⟩:=h.resolve_left hx;have key:∀y:Int,8193<=y->8193<=m*y+(x-m)*(y+1):=by
    intro y hy;have e1:0<=(x-m)*(y+1):=ak4 ae ae;have e2:0<=m*y:=ak4 m0 ae;by_cases hm:1<=m
    ·have:1*y<=m*y:=akp hm ae;omega
    ·have EP:m=0:=by omega
     subst EP;have:1*(y+1)<=(x-0)*(y+1):=akp ae ae;omega
   have k1:=key 8193 ae;have k2:=key z ae;omega
theorem Wl {x:Re} (o:re.op=4) (hk:re.kids=[x]) (m0:0<=re.mn) (h:re.mx=-1\/(1<=re.mx/\re.mn<=re.mx)):(re.eC:Int)=if re.mx=-1 then re.mn*x.eC+x.eC+2 else re.mn*x.eC+(re.mx-re.mn)*(x.eC+1):=by
 rw[Re.ox,xU,bd,bd,bd,bd,be o,hk];have e1:((re.mn.toNat:Nat):Int)=re.mn:=ae;by_cases hx:re.mx=-1
 ·rw[be hx,be hx];simp only[Re.cf,ak0]
  push_cast
  rw[e1];generalize re.mn*(x.eC:Int)=y;omega
 ·rw[ap hx,ap hx];simp only[Re.cf,ak0];have e2:(((re.mx-re.mn).toNat:Nat):Int)=re.mx-re.mn:=ae
  push_cast
  rw[e1,e2]
theorem CQ (re:Re):re.every oO=true->aM Tryz.prog 59 [sN re] (i64 (iR re)):=by
 induction re using Re.ind with
 |h re ih =>
 intro hs;obtain⟨dM,jA⟩:=(Re.aD re).1 hs;obtain⟨q1,q2,q3,q4,q5,q6,q7,q8,q9,jc,_,_,q13,q14,_⟩:=lN.1 dM;have oL:re.op=1\/re.op=11\/re.op=7\/re.op=8\/re.op=2\/re.op=3\/re.op=5\/re.op=4\/re.op=0\/re.op=6\/re.op=9\/re.op=10:=ae;have OU:(re.op=1\/re.op=11\/re.op=7\/re.op=8)->iR re=1:=λh=>by rw[iR,Re.ox,xU,be h];rfl
 have mS:(re.op=0\/re.op=6\/re.op=9\/re.op=10)->iR re=0:=λh=>by rw[iR,Re.ox,xU,bd,bd,bd,bd,bd];rfl
 have PV:(re.op=4\/re.op=5)->∃x,re.kids=[x]:=λh=>List.length_eq_one_iff.1 (q1 ae);rcases oL with o|o|o|o|o|o|o|o|o|o|o|o
 case inl=>rw[OU ae];refine bo Tryz.func59 Tryz.ntmps59 Tryz.results59 0 1852271 ?_;simp only[zI,simprocAttr,av re,iD,bD,o]
 case inr.inl=>rw[OU ae];refine bo Tryz.func59 Tryz.ntmps59 Tryz.results59 0 1852271 ?_;simp only[zI,simprocAttr,av re,iD,bD,o]
 case inr.inr.inl=>rw[OU ae];refine bo Tryz.func59 Tryz.ntmps59 Tryz.results59 0 1852271 ?_;simp only[zI,simprocAttr,av re,iD,bD,o]
 case inr.inr.inr.inl=>rw[OU ae];refine bo Tryz.func59 Tryz.ntmps59 Tryz.results59 0 1852271 ?_;simp only[zI,simprocAttr,av re,iD,bD,o]
 case inr.inr.inr.inr.inl =>
  have hz:iR re=min (min (Re.cf re.kids:Int) 8193) 8193:=by rw[iR,Re.ox,xU,bd,be o];omega
  refine bo Tryz.func59 Tryz.ntmps59 Tryz.results59 0 1852271 ?_;simp only[zI,simprocAttr,av re,iD,bD,o];refine aw (λn e s=>∃i:Nat,n=re.kids.length-i/\i<=re.kids.length/\e 1=.rf 0 0 0 0/\e 3=i64 (min (Re.cf (re.kids.take i):Int) 8193)/\e 18=.d (.sl (re.kids.map Re.cells))/\e 19=i64 re.kids.length/\e 20=i64 i/\s=[bf re]) ⟨_,_,_,bA.refl,0,rfl,ae,rfl,rfl,rfl,rfl,rfl,by simp [bf,Re.ah re,iD,bD,o]⟩ ?_;rintro n e s ⟨i,rfl,hi,h1,h3,kH,lk,nI,rfl⟩;rcases akd i re.kids.length with az|gx
  ·obtain⟨k,hk⟩:∃k,re.kids[i]?=some k:=cc az;have hm:=List.mem_of_getElem? hk;have aA:(i:Int)<(re.kids.length:Int):=ae;have hi0:(0:Int)<=(i:Int):=ae;have Mq:Re.cf (re.kids.take (i+1))=Re.cf (re.kids.take i)+k.eC:=by rw[bm hk,iu];simp [Re.cf]
   have fJ:=ih k hm (jA k hm);unfold iR at fJ;simp only[i64]at fJ;have Uw:min (min (Re.cf (re.kids.take i):Int) 8193+min (k.eC:Int) 8193) 8193=min (Re.cf (re.kids.take (i+1)):Int) 8193:=ae;have w1:IntKind.i64.wrap (min (Re.cf (re.kids.take i):Int) 8193+min (k.eC:Int) 8193)=min (Re.cf (re.kids.take i):Int) 8193+min (k.eC:Int) 8193:=bG _ ae;simp only[zX,simprocAttr,bf,Re.ah re,ajR,ajV,iD,bD,h1,h3,kH,lk,nI,i64,aA,hi0,az,hk,ajM,List.getElem?_map,ajS,ajP];refine dY fJ ?_;simp only[zX,simprocAttr,bf,Re.ah re,ajR,ajV,iD,bD,h1,h3,kH,lk,nI,i64,w1,Uw];refine⟨re.kids.length-(i+1),_,_,ae,bA.cut (s':=[bf re]) 1 ae (by simp [bf,Re.ah re,iD,bD]) (by simp [bf,aK,Re.ah re,aj]) [1,3,18,19,20] (by simp [bK,aS,aj,h1,h3,kH,lk,nI,i64]),i+1,rfl,az,?_,?_,?_,?_,?_,by simp [bf,Re.ah re,iD,bD]⟩ <;> (try simp only[zU,pZ,jN,oN,oV,reduceIte])
   ·exact h1
   ·exact kH
   ·exact lk
   ·rw[bG _ ae];rfl
  ·have dX:i=re.kids.length:=by omega
   subst dX;rw[akg]at h3;rw[hz];simp only[zX,simprocAttr,bf,Re.ah re,ajR,ajV,iD,bD,h1,h3,kH,lk,nI,i64,o,aku]
 case inr.inr.inr.inr.inr.inl =>
  have hz:iR re=min (min (Re.cf re.kids:Int) 8193+2*((re.kids.length:Int)-1)) 8193:=by have:=q2 o;rw[iR,Re.ox,xU,bd,bd,be o];omega
  refine bo Tryz.func59 Tryz.ntmps59 Tryz.results59 0 1852271 ?_;simp only[zI,simprocAttr,av re,iD,bD,o];refine aw (λn e s=>∃i:Nat,n=re.kids.length-i/\i<=re.kids.length/\e 1=.rf 0 0 0 0/\e 3=i64 (min (Re.cf (re.kids.take i):Int) 8193)/\e 18=.d (.sl (re.kids.map Re.cells))/\e 19=i64 re.kids.length/\e 20=i64 i/\s=[bf re]) ⟨_,_,_,bA.refl,0,rfl,ae,rfl,rfl,rfl,rfl,rfl,by simp [bf,Re.ah re,iD,bD,o]⟩ ?_;rintro n e s ⟨i,rfl,hi,h1,h3,kH,lk,nI,rfl⟩;rcases akd i re.kids.length with az|gx
  ·obtain⟨k,hk⟩:∃k,re.kids[i]?=some k:=cc az;have hm:=List.mem_of_getElem? hk;have aA:(i:Int)<(re.kids.length:Int):=ae;have hi0:(0:Int)<=(i:Int):=ae;have Mq:Re.cf (re.kids.take (i+1))=Re.cf (re.kids.take i)+k.eC:=by rw[bm hk,iu];simp [Re.cf]
   have fJ:=ih k hm (jA k hm);unfold iR at fJ;simp only[i64]at fJ;have Uw:min (min (Re.cf (re.kids.take i):Int) 8193+min (k.eC:Int) 8193) 8193=min (Re.cf (re.kids.take (i+1)):Int) 8193:=ae;have w1:IntKind.i64.wrap (min (Re.cf (re.kids.take i):Int) 8193+min (k.eC:Int) 8193)=min (Re.cf (re.kids.take i):Int) 8193+min (k.eC:Int) 8193:=bG _ ae;simp only[zX,simprocAttr,bf,Re.ah re,ajR,ajV,iD,bD,h1,h3,kH,lk,nI,i64,aA,hi0,az,hk,ajM,List.getElem?_map,ajS,ajP];refine dY fJ ?_;simp only[zX,simprocAttr,bf,Re.ah re,ajR,ajV,iD,bD,h1,h3,kH,lk,nI,i64,w1,Uw];refine⟨re.kids.length-(i+1),_,_,ae,bA.cut (s':=[bf re]) 1 ae (by simp [bf,Re.ah re,iD,bD]) (by simp [bf,aK,Re.ah re,aj]) [1,3,18,19,20] (by simp [bK,aS,aj,h1,h3,kH,lk,nI,i64]),i+1,rfl,az,?_,?_,?_,?_,?_,by simp [bf,Re.ah re,iD,bD]⟩ <;> (try simp only[zU,pZ,jN,oN,oV,reduceIte])
   ·exact h1
   ·exact kH
   ·exact lk
   ·rw[bG _ ae];rfl
  ·have dX:i=re.kids.length:=by omega
   subst dX;rw[akg]at h3;rw[hz];have w1:IntKind.i64.wrap ((re.kids.length:Int)-1)=(re.kids.length:Int)-1:=bG _ ae;have w2:IntKind.i64.wrap (2*((re.kids.length:Int)-1))=2*((re.kids.length:Int)-1):=bG _ ae;have w3:IntKind.i64.wrap (min (Re.cf re.kids:Int) 8193+2*((re.kids.length:Int)-1))=min (Re.cf re.kids:Int) 8193+2*((re.kids.length:Int)-1):=bG _ ae;simp only[zX,simprocAttr,bf,Re.ah re,ajR,ajV,iD,bD,h1,h3,kH,lk,nI,i64,o,aku,ajM,w1,w2,w3]
 case inr.inr.inr.inr.inr.inr.inl =>
  obtain⟨x,hx⟩:=PV (.inr o);have hz:iR re=min (min (x.eC:Int) 8193+2) 8193:=by rw[iR,Re.ox,xU,bd,bd,bd,be o,hx];simp only[Re.cf];omega
  rw[hz];have fJ:=ih x (by rw[hx];simp) (jA x (by rw[hx];simp));unfold iR at fJ;simp only[i64]at fJ;have Kl:re.kids[0]?=some x:=by rw[hx];rfl
  have fm:(0:Int)<(re.kids.length:Int):=by rw[hx];simp
  have w1:IntKind.i64.wrap (min (x.eC:Int) 8193+2)=min (x.eC:Int) 8193+2:=bG _ ae;refine bo Tryz.func59 Tryz.ntmps59 Tryz.results59 0 1852271 ?_;simp only[zI,simprocAttr,av re,iD,bD,o,ajM,fm,Kl];refine dY fJ ?_;simp only[zI,simprocAttr,av re,iD,bD,o,w1]
 case inr.inr.inr.inr.inr.inr.inr.inl =>
  obtain⟨x,hx⟩:=PV (.inl o);have hz:=VC (m:=re.mn) (x:=re.mx) (z:=x.eC) ae q4 (q8 o);rw[<- Wl o hx q4 (q8 o)]at hz;have fJ:=ih x (by rw[hx];simp) (jA x (by rw[hx];simp));have Kl:re.kids[0]?=some x:=by rw[hx];rfl
  have fm:(0:Int)<(re.kids.length:Int):=by rw[hx];simp
  unfold iR at fJ ⊢;rw[<- hz];have hy0:0<=min (x.eC:Int) 8193:=ae;have hy1:min (x.eC:Int) 8193<=8193:=ae;generalize min (x.eC:Int) 8193=y at *;simp only[i64]at fJ;have e1:0<=re.mn*y/\re.mn*y<=32*y:=⟨ak4 q4 hy0,akp q5 hy0⟩
  have w1:IntKind.i64.wrap (re.mn*y)=re.mn*y:=bG _ ae;by_cases hm:re.mx=-1
  ·have w2:IntKind.i64.wrap (y+2)=y+2:=bG _ ae;have w3:IntKind.i64.wrap (re.mn*y+(y+2))=re.mn*y+(y+2):=bG _ ae;rw[be hm];have vT:decide (re.mx=-1)=true:=bi hm;refine bo Tryz.func59 Tryz.ntmps59 Tryz.results59 0 1852271 ?_;simp only[zI,simprocAttr,av re,iD,bD,o,ajM,fm,Kl];refine dY fJ ?_;simp only[zI,simprocAttr,av re,iD,bD,o,vT,w1,w2,w3]
  ·have e2:0<=(re.mx-re.mn)*(y+1)/\(re.mx-re.mn)*(y+1)<=32*(y+1):=by obtain⟨h1,h2⟩:=(q8 o).resolve_left hm;exact⟨ak4 ae ae,akp ae ae⟩
   have w2:IntKind.i64.wrap (y+1)=y+1:=bG _ ae;have w3:IntKind.i64.wrap (re.mx-re.mn)=re.mx-re.mn:=bG _ ae;have w4:IntKind.i64.wrap ((re.mx-re.mn)*(y+1))=(re.mx-re.mn)*(y+1):=bG _ ae;have w5:IntKind.i64.wrap (re.mn*y+(re.mx-re.mn)*(y+1))=re.mn*y+(re.mx-re.mn)*(y+1):=bG _ ae;rw[ap hm];have vT:decide (re.mx=-1)=false:=ce hm;refine bo Tryz.func59 Tryz.ntmps59 Tryz.results59 0 1852271 ?_;simp only[zI,simprocAttr,av re,iD,bD,o,ajM,fm,Kl];refine dY fJ ?_;simp only[zI,simprocAttr,av re,iD,bD,o,vT,w1,w2,w3,w4,w5]
 all_goals rw[mS ae]
 all_goals
  refine bo Tryz.func59 Tryz.ntmps59 Tryz.results59 0 1852271 ?_;simp only[zI,simprocAttr,av re,iD,bD,o];rfl
def S7 (R:Nat->Prop) (i:aq):Prop:=(0<=i.op/\i.op<=5)/\(i.op=1->∃re k,i.node=some (re,k)/\re.op=1/\re.set.length<=1000000) /\
 (i.op=5->∃re k,i.node=some (re,k)/\re.op≠1/\(re.op=11->0<=re.n/\re.n<=5)/\(re.op≠11->R k))
def IW (B:Nat) (i:aq):Prop:=0<=i.x/\i.x<=B/\0<=i.y/\i.y<=B
def CP (R:Nat->Prop) (C:List aq):Prop:=(∀i∈C,S7 R i)/\∀i∈C,IW C.length i
theorem IW.mono {B B':Nat} (h:B<=B') {i:aq} (k:IW B i):IW B' i:=⟨k.1,ald k.2.1 ae,k.2.2.1,ald k.2.2.2 ae⟩
theorem CP.add (h:CP R C) {i:aq} (hp:S7 R i) (hq:IW (C.length+1) i):CP R (C++[i]):=by
 refine⟨λj hj=>?_,λj hj=>?_⟩
 ·rcases List.mem_append.1 hj with hj|hj
  ·exact h.1 j hj
  ·rw[List.mem_singleton.1 hj];exact hp
 ·rw[ajQ,aki];rcases List.mem_append.1 hj with hj|hj
  ·exact(h.2 j hj).mono ae
  ·rw[List.mem_singleton.1 hj];exact hq
theorem CP.xy (h:CP R C) {c:Nat}{x y:Int} (hx:0<=x/\x<=C.length) (hy:0<=y/\y<=C.length):CP R (wV C c x y):=by
 refine⟨λj hj=>?_,λj hj=>?_⟩
 ·unfold wV at hj;by_cases hc:c<C.length
  ·rcases akL hj with hj|rfl
   ·exact h.1 j hj
   ·have hm:e9 C c∈C:=by unfold e9;rw[List.getD_eq_getElem?_getD,List.getElem?_eq_getElem hc];exact List.getElem_mem hc
    have h0:=h.1 _ hm;exact h0
  ·have hj2:j∈C:=by rw[List.set_eq_of_length_le ae]at hj;exact hj
   exact h.1 j hj2
 ·rw[nv];unfold wV at hj;rcases akL hj with hj|rfl
  ·exact h.2 j hj
  ·exact⟨hx.1,hx.2,hy.1,hy.2⟩
theorem abH (h:CP R C) (c:Nat):0<=(e9 C c).y/\(e9 C c).y<=C.length:=by
 by_cases hc:c<C.length
 ·have hm:e9 C c∈C:=by unfold e9;rw[List.getD_eq_getElem?_getD,List.getElem?_eq_getElem hc];exact List.getElem_mem hc
  exact(h.2 _ hm).2.2
 ·have:e9 C c=⟨0,0,0,0,none⟩:=by unfold e9;rw[List.getD_eq_getElem?_getD,List.getElem?_eq_none ae];rfl
  rw[this];simp
theorem CP.xs:∀(J:List Nat) {C:List aq}{E:Nat},CP R C->C.length=E->CP R (J.foldl (xO E) C)
 |[],_,_,h,_=>h
 |c::J,C,E,h,hE=>by rw[akY];refine CP.xs J ?_ (by rw[Ih];exact hE);exact h.xy ⟨ae,ae⟩ (abH h c)
theorem CP.MM (mode:Int):∀(J:List Nat) {C:List aq},CP R C->(∀c∈J,c<C.length)->CP R (J.foldl (nn mode) C)
 |[],_,h,_=>h
 |c::J,C,h,hJ=>by
  rw[akY];have hc:=hJ c ak;refine CP.MM mode J ?_ (λd hd=>by rw[Jp];exact hJ d (by simp [hd]));unfold nn;split
  ·exact h.xy ⟨ae,ae⟩ ⟨ae,ae⟩
  ·exact h.xy ⟨ae,ae⟩ ⟨ae,ae⟩
theorem Dx (x y:Int):S7 R (cR x y):=⟨by simp [cR],λh=>absurd h (by simp [cR]),λh=>absurd h (by simp [cR])⟩
theorem KX (x:Int):S7 R (iT x):=⟨by simp [iT],λh=>absurd h (by simp [iT]),λh=>absurd h (by simp [iT])⟩
theorem LM (x:Int):S7 R (gy x):=⟨by simp [gy],λh=>absurd h (by simp [gy]),λh=>absurd h (by simp [gy])⟩
theorem CP.iter{f:List aq->List aq} (hf:∀C,CP R C->CP R (f C)):∀n C,CP R C->CP R (ir f n C)
 |0,_,h=>h
 |n+1,C,h=>hf _ (CP.iter hf n C h)
theorem Wc (R:Nat->Prop) (re:Re):re.every oO=true->∀k,(∀j,k<=j->j<k+re.looks->R j)->∀C,CP R C->CP R (re.emit k C):=by
 refine Re.ind (Q:=λre=>re.every oO=true->∀k,(∀j,k<=j->j<k+re.looks->R j)->∀C,CP R C->CP R (re.emit k C)) (λre ih hs k hR C hC=>?_) re;obtain⟨dM,jA⟩:=(Re.aD re).1 hs;obtain⟨q1,q2,q3,q4,q5,q6,q7,q8,q9,jc,mX,B8,q13,q14,q15⟩:=lN.1 dM;have q0:∀{n:Nat},IW (n+1) (cR 0 0):=λ{n}=>⟨by simp [cR],by simp [cR];omega,by simp [cR],by simp [cR];omega⟩
 rw[Re.iK];by_cases o1:re.op=1
 ·rw[be o1];exact hC.add ⟨by simp [qC],λ_=>⟨re,k,rfl,o1,q15⟩,λh=>absurd h (by simp [qC])⟩ ⟨by simp [qC],by simp [qC];omega,by simp [qC],by simp [qC];omega⟩
 rw[ap o1];by_cases o7:re.op=11\/re.op=7\/re.op=8
 ·rw[be o7];refine hC.add ⟨by simp [gQ],λh=>absurd h (by simp [gQ]),λ_=>⟨re,k,rfl,o1,λh=>⟨q9,B8 h⟩,λh=>hR k (ajZ _) ?_⟩⟩ ⟨by simp [gQ],by simp [gQ];omega,by simp [gQ],by simp [gQ];omega⟩;rw[Re.jZ,be (o7.resolve_left h)];omega
 rw[ap o7];have ON:re.looks=Re.ba re.kids:=by rw[Re.jZ,bd,ajT]
 rw[ON]at hR;have hL:∀(l:List Re) (k:Nat) (C:List aq),(∀x∈l,x∈re.kids)->(∀j,k<=j->j<k+Re.ba l->R j)->CP R C->CP R (Re.dj l k C):=by
  intro l;induction l with
  |nil=>intro k C _ _ h;exact h
  |cons x l CG =>
   intro k C hm hR h;rw[Re.ba]at hR;rw[Re.dj];exact CG _ _ (λy hy=>hm y (by simp [hy])) (λj h1 h2=>hR j ae ae) (ih x (hm x ak) (jA x (hm x ak)) k (λj h1 h2=>hR j h1 ae) C h)
 by_cases o2:re.op=2
 ·rw[be o2];exact hL _ _ _ (λ_ h=>h) hR hC
 rw[ap o2];by_cases o3:re.op=3
 ·rw[be o3];have hA:∀(l:List Re) (k:Nat) (C:List aq) (J:List Nat),(∀x∈l,x∈re.kids)->(∀j,k<=j->j<k+Re.ba l->R j)->CP R C->CP R (Re.lO l k C J):=by
   intro l;induction l with
   |nil=>intro k C J _ _ h;exact h
   |cons x l CG =>
    intro k C J hm hR h;rw[Re.ba]at hR;have hx:=λC h=>ih x (hm x ak) (jA x (hm x ak)) k (λj h1 h2=>hR j h1 ae) C h;cases l with
    |nil =>
     rw[Re.lO];exact CP.xs J (hx C h) rfl
    |cons y l =>
     rw[Re.lO];have h2:=hx _ (h.add (Dx 0 0) q0);have BL:=Re.ez x k (C++[cR 0 0]);rw[ajQ,aki]at BL;generalize x.emit k (C++[cR 0 0])=D at *;have h3:CP R (D++[iT 0]):=h2.add (KX 0) ⟨by simp [iT],by simp [iT];omega,by simp [iT],by simp [iT];omega⟩;refine CG _ _ _ (λz hz=>hm z (by simp only[akD]at hz ⊢;exact .inr hz)) (λj h1 h2=>hR j ae ae) (h3.xy ?_ ?_)
     ·rw[ajQ,aki];exact⟨ae,ae⟩
     ·rw[ajQ,aki];exact⟨ae,ae⟩
   done
  exact hA _ _ _ _ (λ_ h=>h) hR hC
 rw[ap o3];by_cases o5:re.op=5
 ·rw[be o5];exact(hL _ _ _ (λ_ h=>h) hR (hC.add (LM _) ⟨by simp [gy],by simp [gy];omega,by simp [gy],by simp [gy];omega⟩)).add (LM _) ⟨by simp [gy],by simp [gy];omega,by simp [gy],by simp [gy];omega⟩
 rw[ap o5];by_cases o4:re.op=4
 ·rw[be o4];have hf:∀C,CP R C->CP R (Re.dj re.kids k C):=λC h=>hL _ _ _ (λ_ h=>h) hR h;have YU:∀C,(Re.dj re.kids k C).length=C.length+Re.cf re.kids:=λC=>Re.vg _ _ _;have h1:=CP.iter hf re.mn.toNat C hC;unfold lY;simp only;generalize ir (λC=>Re.dj re.kids k C) re.mn.toNat C=C1 at *;split
  ·have h2:=hf _ (h1.add (Dx 0 0) q0);have BL:=YU (C1++[cR 0 0]);rw[ajQ,aki]at BL;generalize Re.dj re.kids k (C1++[cR 0 0])=D at *;refine CP.MM _ _ (h2.add (KX _) ⟨by simp [iT],by simp [iT];omega,by simp [iT],by simp [iT];omega⟩) (λc hc=>?_);rw[aj1]at hc;rw[ajQ,aki];omega
  ·have h2:CP R (fD (λC=>Re.dj re.kids k C) (re.mx-re.mn).toNat C1).1:=by
    have:∀n,CP R (fD (λC=>Re.dj re.kids k C) n C1).1:=by
     intro n;induction n with
     |zero=>exact h1
     |succ n Zk=>exact hf _ (Zk.add (Dx 0 0) q0)
    exact this _
   refine CP.MM _ _ h2 (λc hc=>?_);have:∀n,∀c∈(fD (λC=>Re.dj re.kids k C) n C1).2,c<(fD (λC=>Re.dj re.kids k C) n C1).1.length:=by
    intro n;induction n with
    |zero=>intro c hc;simp [fD]at hc
    |succ n Zk =>
     intro c hc;simp only[fD,akm,aj1]at hc;simp only[fD,YU,ajQ,aki];rcases hc with hc|rfl
     ·have:=Zk c hc;omega
     ·omega
   exact this _ c hc
 rw[ap o4];exact hC
end Go.Proofs.YtjjfioalgbecmaaGreat
