/- A part of the proof (K2 O20 O26). -/
import Derived.Test.YtfmdmlfhigocaaaON15
import Derived.Test.YtfmdmlfhigocaaaON25
import Derived.Test.YtfmdmlfhigocaaaON26
import Derived.Test.YtfmdmlfhigocaaaON32
set_option linter.unusedSimpArgs false
set_option linter.unusedVariables false
open Nat renaming reduceShiftRight → cQ, reduceMod → dx, reduceLT → dB, reduceMul → dC, reduceSub → dD, reduceEqDiff → eI, reduceAdd → eJ, reduceLeDiff → fX, reduceBEq → gj
open Int renaming reduceToNat → gl, reduceNeg → ja, reduceLT → jg, reduceLE → jk, reduceEq → mA
set_option maxRecDepth 100000
set_option maxHeartbeats 80000000
namespace Go.Proofs.Ytfmdmlfhigocaaa
open Go.VL Go.Proofs.Try
variable{re:Re}{C:List ay}{R:Nat->Prop}
def OU (re:Re):Bool:=decide ((re.op=4\/re.op=5->1<=re.kids.length)/\(re.op=3->2<=re.kids.length)/\re.kids.length<=1000/\re.set.length<=1000000/\0<=re.mn/\re.mn<=32/\-1<=re.mx/\re.mx<=32/\(re.mx=-1\/re.mx=0\/re.mn<=re.mx)/\jC re.n/\re.n<=1000000/\-1000000<=re.n)
theorem eW:OU re=true ↔ ((re.op=4\/re.op=5->1<=re.kids.length)/\(re.op=3->2<=re.kids.length)/\re.kids.length<=1000/\re.set.length<=1000000/\0<=re.mn/\re.mn<=32/\-1<=re.mx/\re.mx<=32/\(re.mx=-1\/re.mx=0\/re.mn<=re.mx)/\jC re.n/\re.n<=1000000/\-1000000<=re.n):=decide_eq_true_iff
theorem MA (re:Re):∀a:List Int,re.every OU=true->re.size<=1000000->a.length+re.size<=2000000->aO prog 75 [fv re,.d (al a)] (bV (re.comp a)):=by
 induction re using Re.ind with
 |h re ih =>
 intro a hs hz ha;obtain⟨ez,iO⟩:=(Re.aB re).1 hs;obtain⟨q1,q2,q3,q4,q5,q6,q7,q8,q9,iF⟩:=eW.1 ez;have fF:=Re.size_eq re
 -- WC loop adG WC kids
 have mY:∀a':List Int,a'.length<=a.length+1->∀k∈re.kids,aO prog 75 [fv k,.d (al a')] (bV (k.comp a')):=λa' NP k hk =>
  ih k hk a' (iO k hk) (by have:=Re.bL hk;omega) (by have:=Re.bL hk;omega)
 by_cases c1:re.op=4/\(re.mode=2\/Re.uQ re.kids=true)
 ·rw[Re.uq,be c1];obtain⟨o4,c1⟩:=c1;obtain⟨k,l,hk⟩:=List.exists_cons_of_length_pos (q1 (.inl o4));have hm:k∈re.kids:=by rw[hk];simp
  have eL:re.kids[0]?=some k:=by rw[hk];rfl
  have hlen:(0:Int)<(re.kids.length:Int):=by rw[hk];simp
  have hn:=gJ k (by have:=Re.bL hm;omega);rw[hk]at c1;by_cases cm:re.mode=2
  ·refine an func75 rfl ntmps75 results75 rfl 0 247 (by simp) (by simp) ?_;simp only[zX,simprocAttr,i64,ai re,iD,bD,o4,cm];rfl
  ·have cn:k.vl=true:=c1.resolve_left cm;rw[cn]at hn;refine an func75 rfl ntmps75 results75 rfl 0 247 (by simp) (by simp) ?_;simp only[zX,simprocAttr,i64,ai re,iD,bD,o4,cm,eL,hlen];refine aj hn (by simp [ah,ah.go,ai,i64,bV,aM]) (by simp [ah,ah.go,ai,i64,bV,aM]) ?_;simp only[zX,simprocAttr,i64,ai re,iD,bD,bV]
 have XX:¬(re.op=4/\(re.mode=2\/Re.uQ re.kids=true)):=c1;by_cases c2:re.op=5
 ·have hh:=QK a re.n (by omega);by_cases c3:re.n∈a
  ·rw[Re.uq,ap c1,be ⟨c2,c3⟩];rw[bi c3]at hh;refine an func75 rfl ntmps75 results75 rfl 0 247 (by simp) (by simp) ?_;simp only[zX,simprocAttr,i64,ai re,iD,bD,c2,al];refine aj hh rfl rfl ?_;simp only[zX,simprocAttr,i64,ai re,iD,bD,bV,c2]
  ·rw[Re.uq,ap c1,ap (λh=>c3 h.2),ap (by omega),be c2];rw[b6 c3]at hh;have qX:∀e∈(a.map λx=>[iD x]).map (λx=>x.map V.d),e.length=1:=λe he=>by obtain⟨x,hx,rfl⟩:=List.mem_map.1 he;obtain⟨p,_,rfl⟩:=List.mem_map.1 hx;rfl
   refine an func75 rfl ntmps75 results75 rfl 0 247 (by simp) (by simp) ?_;simp only[zX,simprocAttr,i64,ai re,iD,bD,c2,al];refine aj hh rfl rfl ?_;simp only[zX,simprocAttr,i64,ai re,iD,bD,bV,c2,age];refine aS (eE 6 1 rfl) ?_;refine ar mix [] [(2,[1],[1]),(6,[1],[1])] (by rfl) ?_;simp only[zX,simprocAttr,i64,ai re,iD,bD,bV,c2];refine⟨rfl,qX,by omega,rfl,λe he=>by rw[List.mem_singleton.1 he];rfl,⟨by omega,by omega⟩,?_⟩;have hL:=mY (a++[re.n]) (by simp);generalize YQ:a++[re.n]=aa at *;refine au (λn e s=>∃i:Nat,n=re.kids.length-i/\i<=re.kids.length/\e 1=.d (al aa)/\e 2=.rf 0 0 0 0/\e 7=i64 i/\(∀x∈re.kids.take i,x.comp aa=true)/\s=[av re])
    ⟨_,_,_,Ls (s':=[av re]) 1 (aa.map λx=>[iD x]) 1 [1,2,7] rfl rfl ?_ ?_ (by omega) (af3 _) ?_ (by simp [av,Re.ae re,aG,ah,iD,bD]) rfl,0,rfl,by omega,?_,?_,?_,by simp,rfl⟩ ?_
   ·rw[agH,<- YQ,af1 (by simp),af1 (by simp)];simp [iD]
   ·simp
   ·simp [av,Re.ae re,iD,bD,c2]
   ·rfl
   ·rfl
   ·rfl
   rintro n e s ⟨i,rfl,hi,h1,h2,h7,bA,rfl⟩;simp only[al]at h1;rcases agi i re.kids.length with az|fI
   ·obtain⟨k,hk⟩:∃k,re.kids[i]?=some k:=⟨_,afP az⟩
    have hm:=afW hk;have JX:=hL k hm;simp only[al]at JX;have aC:(i:Int)<re.kids.length:=by omega
    simp only[zX,simprocAttr,i64,av,Re.ae re,afR,afU,iD,bD,h1,h2,h7,aC,hk];refine aj JX (by simp [ah,ah.go,ai]) (by simp [ah,ah.go,ai,i64,bV,aM]) ?_;cases cU:k.comp aa with
    |true =>
     simp only[zX,simprocAttr,i64,iD,bD,bV,h1,h2,h7,cU,aga];refine⟨re.kids.length-(i+1),_,_,by omega,br.refl,i+1,rfl,az,?_,?_,?_,?_,rfl⟩ <;> (try simp only[zU,gj,cQ,dx,eI,reduceIte])
     ·exact h1
     ·exact h2
     ·rw[bd _ (by omega)];rfl
     ·intro x hx;rcases bu hk hx with h|rfl
      ·exact bA x h
      ·exact cU
    |false =>
     simp only[zX,simprocAttr,i64,iD,bD,bV,h1,h2,h7,cU,af4];have:(re.kids.all λk=>k.comp aa)=false:=by rw[agY];exact⟨k,hm,by simp [cU]⟩
     rw[this]
   ·have cV:i=re.kids.length:=by omega
    subst cV;have aC:¬(re.kids.length:Int)<re.kids.length:=by omega
    rw[agj]at bA;have:(re.kids.all λk=>k.comp aa)=true:=by rw[af8];exact bA
    rw[this];simp only[zX,simprocAttr,i64,av,Re.ae re,afR,afU,iD,bD,bV,h1,h2,h7,aC]
 ·have hL:=mY a (by omega);by_cases c3:5<re.op/\re.op≠11
  ·rw[Re.uq,ap c1,ap (λh=>c2 h.1),be c3];have c4:re.op≠4:=by omega
   have c5:=c3.1;have c6:=c3.2;refine an func75 rfl ntmps75 results75 rfl 0 247 (by simp) (by simp) ?_;simp only[zX,simprocAttr,i64,ai re,iD,bD,bV,c2,c4,c5,c6,gt_iff_lt,ne_eq,not_false_eq_true]
  ·rw[Re.uq,ap c1,ap (λh=>c2 h.1),ap c3,ap c2];generalize a=aa at *;by_cases o4:re.op=4
   ·have cm:re.mode≠2:=λh=>c1 ⟨o4,.inl h⟩;obtain⟨k,l,hk⟩:=List.exists_cons_of_length_pos (q1 (.inl o4));have cn:k.vl=false:=by
     cases h:k.vl with
     |false=>rfl
     |true=>exact absurd ⟨o4,.inr (by rw[hk];exact h)⟩ c1
    have hm:k∈re.kids:=by rw[hk];simp
    have eL:re.kids[0]?=some k:=by rw[hk];rfl
    have hlen:(0:Int)<(re.kids.length:Int):=by rw[hk];simp
    have hn:=gJ k (by have:=Re.bL hm;omega);rw[cn]at hn;refine an func75 rfl ntmps75 results75 rfl 0 247 (by simp) (by simp) ?_;simp only[zX,simprocAttr,i64,ai re,iD,bD,o4,cm,eL,hlen];refine aj hn (by simp [ah,ah.go,ai,i64,bV,aM]) (by simp [ah,ah.go,ai,i64,bV,aM]) ?_;simp only[zX,simprocAttr,i64,ai re,iD,bD,bV,o4,age,gt_iff_lt];refine au (λn e s=>∃i:Nat,n=re.kids.length-i/\i<=re.kids.length/\e 1=.d (al aa)/\e 2=.rf 0 0 0 0/\e 7=i64 i/\(∀x∈re.kids.take i,x.comp aa=true)/\s=[av re])
     ⟨_,_,_,br.refl,0,rfl,by omega,rfl,rfl,rfl,by simp,by simp [av,Re.ae re,iD,bD,o4]⟩ ?_
    rintro n e s ⟨i,rfl,hi,h1,h2,h7,bA,rfl⟩;simp only[al]at h1;rcases agi i re.kids.length with az|fI
    ·obtain⟨k,hk⟩:∃k,re.kids[i]?=some k:=⟨_,afP az⟩
     have hm:=afW hk;have JX:=hL k hm;simp only[al]at JX;have aC:(i:Int)<re.kids.length:=by omega
     simp only[zX,simprocAttr,i64,av,Re.ae re,afR,afU,iD,bD,h1,h2,h7,aC,hk];refine aj JX (by simp [ah,ah.go,ai]) (by simp [ah,ah.go,ai,i64,bV,aM]) ?_;cases cU:k.comp aa with
     |true =>
      simp only[zX,simprocAttr,i64,iD,bD,bV,h1,h2,h7,cU,aga];refine⟨re.kids.length-(i+1),_,_,by omega,br.refl,i+1,rfl,az,?_,?_,?_,?_,rfl⟩ <;> (try simp only[zU,gj,cQ,dx,eI,reduceIte])
      ·exact h1
      ·exact h2
      ·rw[bd _ (by omega)];rfl
      ·intro x hx;rcases bu hk hx with h|rfl
       ·exact bA x h
       ·exact cU
     |false =>
      simp only[zX,simprocAttr,i64,iD,bD,bV,h1,h2,h7,cU,af4];have:(re.kids.all λk=>k.comp aa)=false:=by rw[agY];exact⟨k,hm,by simp [cU]⟩
      rw[this]
    ·have cV:i=re.kids.length:=by omega
     subst cV;have aC:¬(re.kids.length:Int)<re.kids.length:=by omega
     rw[agj]at bA;have:(re.kids.all λk=>k.comp aa)=true:=by rw[af8];exact bA
     rw[this];simp only[zX,simprocAttr,i64,av,Re.ae re,afR,afU,iD,bD,bV,h1,h2,h7,aC]
   ·by_cases c5:5<re.op
    ·have c6:re.op=11:=by omega
     refine an func75 rfl ntmps75 results75 rfl 0 247 (by simp) (by simp) ?_;simp only[zX,simprocAttr,i64,ai re,iD,bD,bV,c6,age,gt_iff_lt,ne_eq,not_true_eq_false];refine au (λn e s=>∃i:Nat,n=re.kids.length-i/\i<=re.kids.length/\e 1=.d (al aa)/\e 2=.rf 0 0 0 0/\e 7=i64 i/\(∀x∈re.kids.take i,x.comp aa=true)/\s=[av re])
      ⟨_,_,_,br.refl,0,rfl,by omega,rfl,rfl,rfl,by simp,by simp [av,Re.ae re,iD,bD,c6]⟩ ?_
     rintro n e s ⟨i,rfl,hi,h1,h2,h7,bA,rfl⟩;simp only[al]at h1;rcases agi i re.kids.length with az|fI
     ·obtain⟨k,hk⟩:∃k,re.kids[i]?=some k:=⟨_,afP az⟩
      have hm:=afW hk;have JX:=hL k hm;simp only[al]at JX;have aC:(i:Int)<re.kids.length:=by omega
      simp only[zX,simprocAttr,i64,av,Re.ae re,afR,afU,iD,bD,h1,h2,h7,aC,hk];refine aj JX (by simp [ah,ah.go,ai]) (by simp [ah,ah.go,ai,i64,bV,aM]) ?_;cases cU:k.comp aa with
      |true =>
       simp only[zX,simprocAttr,i64,iD,bD,bV,h1,h2,h7,cU,aga];refine⟨re.kids.length-(i+1),_,_,by omega,br.refl,i+1,rfl,az,?_,?_,?_,?_,rfl⟩ <;> (try simp only[zU,gj,cQ,dx,eI,reduceIte])
       ·exact h1
       ·exact h2
       ·rw[bd _ (by omega)];rfl
       ·intro x hx;rcases bu hk hx with h|rfl
        ·exact bA x h
        ·exact cU
      |false =>
       simp only[zX,simprocAttr,i64,iD,bD,bV,h1,h2,h7,cU,af4];have:(re.kids.all λk=>k.comp aa)=false:=by rw[agY];exact⟨k,hm,by simp [cU]⟩
       rw[this]
     ·have cV:i=re.kids.length:=by omega
      subst cV;have aC:¬(re.kids.length:Int)<re.kids.length:=by omega
      rw[agj]at bA;have:(re.kids.all λk=>k.comp aa)=true:=by rw[af8];exact bA
      rw[this];simp only[zX,simprocAttr,i64,av,Re.ae re,afR,afU,iD,bD,bV,h1,h2,h7,aC]
    ·refine an func75 rfl ntmps75 results75 rfl 0 247 (by simp) (by simp) ?_;simp only[zX,simprocAttr,i64,ai re,iD,bD,bV,o4,c5,c2,age,gt_iff_lt,ne_eq,not_true_eq_false];refine au (λn e s=>∃i:Nat,n=re.kids.length-i/\i<=re.kids.length/\e 1=.d (al aa)/\e 2=.rf 0 0 0 0/\e 7=i64 i/\(∀x∈re.kids.take i,x.comp aa=true)/\s=[av re])
      ⟨_,_,_,br.refl,0,rfl,by omega,rfl,rfl,rfl,by simp,by simp [av,Re.ae re,iD,bD,o4]⟩ ?_
     rintro n e s ⟨i,rfl,hi,h1,h2,h7,bA,rfl⟩;simp only[al]at h1;rcases agi i re.kids.length with az|fI
     ·obtain⟨k,hk⟩:∃k,re.kids[i]?=some k:=⟨_,afP az⟩
      have hm:=afW hk;have JX:=hL k hm;simp only[al]at JX;have aC:(i:Int)<re.kids.length:=by omega
      simp only[zX,simprocAttr,i64,av,Re.ae re,afR,afU,iD,bD,h1,h2,h7,aC,hk];refine aj JX (by simp [ah,ah.go,ai]) (by simp [ah,ah.go,ai,i64,bV,aM]) ?_;cases cU:k.comp aa with
      |true =>
       simp only[zX,simprocAttr,i64,iD,bD,bV,h1,h2,h7,cU,aga];refine⟨re.kids.length-(i+1),_,_,by omega,br.refl,i+1,rfl,az,?_,?_,?_,?_,rfl⟩ <;> (try simp only[zU,gj,cQ,dx,eI,reduceIte])
       ·exact h1
       ·exact h2
       ·rw[bd _ (by omega)];rfl
       ·intro x hx;rcases bu hk hx with h|rfl
        ·exact bA x h
        ·exact cU
      |false =>
       simp only[zX,simprocAttr,i64,iD,bD,bV,h1,h2,h7,cU,af4];have:(re.kids.all λk=>k.comp aa)=false:=by rw[agY];exact⟨k,hm,by simp [cU]⟩
       rw[this]
     ·have cV:i=re.kids.length:=by omega
      subst cV;have aC:¬(re.kids.length:Int)<re.kids.length:=by omega
      rw[agj]at bA;have:(re.kids.all λk=>k.comp aa)=true:=by rw[af8];exact bA
      rw[this];simp only[zX,simprocAttr,i64,av,Re.ae re,afR,afU,iD,bD,bV,h1,h2,h7,aC]
def dm (re:Re):Int:=min (re.gD:Int) 8193
def mv (re:Re):Bool:=decide ((re.op=4\/re.op=5\/re.op=7\/re.op=8->re.kids.length=1)/\(re.op=3->2<=re.kids.length)/\re.kids.length<=1000/\0<=re.mn/\re.mn<=32/\-1<=re.mx/\re.mx<=32/\(re.op=4->re.mx=-1\/(1<=re.mx/\re.mn<=re.mx))/\0<=re.n/\re.n<=9/\(re.op=5->1<=re.n)/\(re.op=11->re.n<=5)/\0<=re.op/\re.op<=11/\re.set.length<=1000000)
theorem jS:mv re=true ↔ (re.op=4\/re.op=5\/re.op=7\/re.op=8->re.kids.length=1)/\(re.op=3->2<=re.kids.length)/\re.kids.length<=1000/\0<=re.mn/\re.mn<=32/\-1<=re.mx/\re.mx<=32/\(re.op=4->re.mx=-1\/(1<=re.mx/\re.mn<=re.mx))/\0<=re.n/\re.n<=9/\(re.op=5->1<=re.n)/\(re.op=11->re.n<=5)/\0<=re.op/\re.op<=11/\re.set.length<=1000000:=by unfold mv;rw[decide_eq_true_eq]
theorem Cz (h:re.every mv=true):re.every LB=true:=iR (λr h=>by
 obtain⟨q1,q2,q3,q4,q5,q6,q7,q8,q9,iF,_⟩:=jS.1 h;exact qV.2 ⟨λh=>q1 (by omega),λh=>by have:=q2 h;omega,by omega,q4,by omega,q6,by omega,q9,by omega⟩) re h
theorem LO {m x z:Int} (hz:0<=z) (m0:0<=m) (h:x=-1\/(1<=x/\m<=x)) :
  min (if x=-1 then m*min z 8193+(min z 8193+2) else m*min z 8193+(x-m)*(min z 8193+1)) 8193=min (if x=-1 then m*z+z+2 else m*z+(x-m)*(z+1)) 8193:=by
 by_cases hc:z<=8193
 ·rw[Int.min_eq_left hc];by_cases hx:x=-1
  ·rw[be hx,be hx,agQ]
  ·rw[ap hx,ap hx]
 ·rw[show min z 8193=8193 by omega];by_cases hx:x=-1
  ·rw[be hx,be hx];have h1:0<=m*8193:=ahm m0 (by omega);have h2:0<=m*z:=ahm m0 hz;omega
  ·rw[ap hx,ap hx];obtain⟨h1,h2⟩:=h.resolve_left hx;have key:∀y:Int,8193<=y->8193<=m*y+(x-m)*(y+1):=by
    intro y hy;have e1:0<=(x-m)*(y+1):=ahm (by omega) (by omega);have e2:0<=m*y:=ahm m0 (by omega);by_cases hm:1<=m
    ·have:1*y<=m*y:=agB hm (by omega);omega
    ·have wI:m=0:=by omega
     subst wI;have:1*(y+1)<=(x-0)*(y+1):=agB (by omega) (by omega);omega
   have k1:=key 8193 (by omega);have k2:=key z (by omega);omega
theorem Mp {x:Re} (o:re.op=4) (hk:re.kids=[x]) (m0:0<=re.mn) (h:re.mx=-1\/(1<=re.mx/\re.mn<=re.mx)):(re.gD:Int)=if re.mx=-1 then re.mn*x.gD+x.gD+2 else re.mn*x.gD+(re.mx-re.mn)*(x.gD+1):=by
 rw[Re.kr,uW,ap (by omega),ap (by omega),ap (by omega),ap (by omega),be o,hk];have e1:((re.mn.toNat:Nat):Int)=re.mn:=by omega
 by_cases hx:re.mx=-1
 ·rw[be hx,be hx];simp only[Re.c7,ag0]
  push_cast
  rw[e1];generalize re.mn*(x.gD:Int)=y;omega
 ·rw[ap hx,ap hx];simp only[Re.c7,ag0];have e2:(((re.mx-re.mn).toNat:Nat):Int)=re.mx-re.mn:=by omega
  push_cast
  rw[e1,e2]
theorem BJ (re:Re):re.every mv=true->aO Try.prog 71 [fv re] (i64 (dm re)):=by
 induction re using Re.ind with
 |h re ih =>
 intro hs;obtain⟨ez,iO⟩:=(Re.aB re).1 hs;obtain⟨q1,q2,q3,q4,q5,q6,q7,q8,q9,iF,_,_,q13,q14,_⟩:=jS.1 ez;have mZ:re.op=1\/re.op=11\/re.op=7\/re.op=8\/re.op=2\/re.op=3\/re.op=5\/re.op=4\/re.op=0\/re.op=6\/re.op=9\/re.op=10:=by omega
 have rL:(re.op=1\/re.op=11\/re.op=7\/re.op=8)->dm re=1:=λh=>by rw[dm,Re.kr,uW,be h];rfl
 have mT:(re.op=0\/re.op=6\/re.op=9\/re.op=10)->dm re=0:=λh=>by rw[dm,Re.kr,uW,ap (by omega),ap (by omega),ap (by omega),ap (by omega),ap (by omega)];rfl
 have Nn:(re.op=4\/re.op=5)->∃x,re.kids=[x]:=λh=>List.length_eq_one_iff.1 (q1 (by omega));rcases mZ with o|o|o|o|o|o|o|o|o|o|o|o
 case inl=>rw[rL (by omega)];refine an Try.func71 rfl Try.ntmps71 Try.results71 rfl 0 1852271 (by simp) (by simp) ?_;simp only[zX,cQ,dx,dB,dC,dD,gl,ja,jg,jk,mA,eI,eJ,fX,reduceIte,reduceCtorEq,gj,i64,ai re,iD,bD,o]
 case inr.inl=>rw[rL (by omega)];refine an Try.func71 rfl Try.ntmps71 Try.results71 rfl 0 1852271 (by simp) (by simp) ?_;simp only[zX,cQ,dx,dB,dC,dD,gl,ja,jg,jk,mA,eI,eJ,fX,reduceIte,reduceCtorEq,gj,i64,ai re,iD,bD,o]
 case inr.inr.inl=>rw[rL (by omega)];refine an Try.func71 rfl Try.ntmps71 Try.results71 rfl 0 1852271 (by simp) (by simp) ?_;simp only[zX,cQ,dx,dB,dC,dD,gl,ja,jg,jk,mA,eI,eJ,fX,reduceIte,reduceCtorEq,gj,i64,ai re,iD,bD,o]
 case inr.inr.inr.inl=>rw[rL (by omega)];refine an Try.func71 rfl Try.ntmps71 Try.results71 rfl 0 1852271 (by simp) (by simp) ?_;simp only[zX,cQ,dx,dB,dC,dD,gl,ja,jg,jk,mA,eI,eJ,fX,reduceIte,reduceCtorEq,gj,i64,ai re,iD,bD,o]
 case inr.inr.inr.inr.inl =>
  have hz:dm re=min (min (Re.c7 re.kids:Int) 8193) 8193:=by rw[dm,Re.kr,uW,ap (by omega),be o];omega
  refine an Try.func71 rfl Try.ntmps71 Try.results71 rfl 0 1852271 (by simp) (by simp) ?_;simp only[zX,cQ,dx,dB,dC,dD,gl,ja,jg,jk,mA,eI,eJ,fX,reduceIte,reduceCtorEq,gj,i64,ai re,iD,bD,o];refine au (λn e s=>∃i:Nat,n=re.kids.length-i/\i<=re.kids.length/\e 1=.rf 0 0 0 0/\e 3=i64 (min (Re.c7 (re.kids.take i):Int) 8193)/\e 18=.d (.sl (re.kids.map Re.cells))/\e 19=i64 re.kids.length/\e 20=i64 i/\s=[av re]) ⟨_,_,_,br.refl,0,rfl,by omega,rfl,rfl,rfl,rfl,rfl,by simp [av,Re.ae re,iD,bD,o]⟩ ?_;rintro n e s ⟨i,rfl,hi,h1,h3,ku,kR,ny,rfl⟩;rcases agi i re.kids.length with az|fI
  ·obtain⟨k,hk⟩:∃k,re.kids[i]?=some k:=⟨_,afP az⟩
   have hm:=afW hk;have aC:(i:Int)<(re.kids.length:Int):=by omega
   have hi0:(0:Int)<=(i:Int):=by omega
   have DZ:Re.c7 (re.kids.take (i+1))=Re.c7 (re.kids.take i)+k.gD:=by rw[aR hk,gR];simp [Re.c7]
   have di:=ih k hm (iO k hm);unfold dm at di;simp only[i64]at di;have Rx:min (min (Re.c7 (re.kids.take i):Int) 8193+min (k.gD:Int) 8193) 8193=min (Re.c7 (re.kids.take (i+1)):Int) 8193:=by omega
   have w1:IntKind.i64.wrap (min (Re.c7 (re.kids.take i):Int) 8193+min (k.gD:Int) 8193)=min (Re.c7 (re.kids.take i):Int) 8193+min (k.gD:Int) 8193:=bd _ (by omega);simp only[zX,cQ,dx,dB,dC,dD,gl,ja,jg,jk,mA,eI,eJ,fX,reduceIte,reduceCtorEq,gj,av,Re.ae re,afR,afU,iD,bD,h1,h3,ku,kR,ny,i64,aC,hi0,az,hk,afN,afO,afV,afT];refine aj di (by simp [ah,ah.go,ai,i64,bV,aM]) (by simp [ah,ah.go,ai,i64,bV,aM]) ?_;simp only[zX,cQ,dx,dB,dC,dD,gl,ja,jg,jk,mA,eI,eJ,fX,reduceIte,reduceCtorEq,gj,av,Re.ae re,afR,afU,iD,bD,h1,h3,ku,kR,ny,i64,w1,Rx];refine⟨re.kids.length-(i+1),_,_,by omega,br.cut (s':=[av re]) 1 (by omega) (by simp [av,Re.ae re,iD,bD]) (by simp [av,aG,Re.ae re,ah]) [1,3,18,19,20] (by simp [bz,aH,ah,h1,h3,ku,kR,ny,i64]),i+1,rfl,az,?_,?_,?_,?_,?_,by simp [av,Re.ae re,iD,bD]⟩ <;> (try simp only[zU,gj,cQ,dx,eI,reduceIte])
   ·exact h1
   ·exact ku
   ·exact kR
   ·rw[bd _ (by omega)];rfl
  ·have cV:i=re.kids.length:=by omega
   subst cV;rw[agj]at h3;rw[hz];simp only[zX,cQ,dx,dB,dC,dD,gl,ja,jg,jk,mA,eI,eJ,fX,reduceIte,reduceCtorEq,gj,av,Re.ae re,afR,afU,iD,bD,h1,h3,ku,kR,ny,i64,o,agO]
 case inr.inr.inr.inr.inr.inl =>
  have hz:dm re=min (min (Re.c7 re.kids:Int) 8193+2*((re.kids.length:Int)-1)) 8193:=by have:=q2 o;rw[dm,Re.kr,uW,ap (by omega),ap (by omega),be o];omega
  refine an Try.func71 rfl Try.ntmps71 Try.results71 rfl 0 1852271 (by simp) (by simp) ?_;simp only[zX,cQ,dx,dB,dC,dD,gl,ja,jg,jk,mA,eI,eJ,fX,reduceIte,reduceCtorEq,gj,i64,ai re,iD,bD,o];refine au (λn e s=>∃i:Nat,n=re.kids.length-i/\i<=re.kids.length/\e 1=.rf 0 0 0 0/\e 3=i64 (min (Re.c7 (re.kids.take i):Int) 8193)/\e 18=.d (.sl (re.kids.map Re.cells))/\e 19=i64 re.kids.length/\e 20=i64 i/\s=[av re]) ⟨_,_,_,br.refl,0,rfl,by omega,rfl,rfl,rfl,rfl,rfl,by simp [av,Re.ae re,iD,bD,o]⟩ ?_;rintro n e s ⟨i,rfl,hi,h1,h3,ku,kR,ny,rfl⟩;rcases agi i re.kids.length with az|fI
  ·obtain⟨k,hk⟩:∃k,re.kids[i]?=some k:=⟨_,afP az⟩
   have hm:=afW hk;have aC:(i:Int)<(re.kids.length:Int):=by omega
   have hi0:(0:Int)<=(i:Int):=by omega
   have DZ:Re.c7 (re.kids.take (i+1))=Re.c7 (re.kids.take i)+k.gD:=by rw[aR hk,gR];simp [Re.c7]
   have di:=ih k hm (iO k hm);unfold dm at di;simp only[i64]at di;have Rx:min (min (Re.c7 (re.kids.take i):Int) 8193+min (k.gD:Int) 8193) 8193=min (Re.c7 (re.kids.take (i+1)):Int) 8193:=by omega
   have w1:IntKind.i64.wrap (min (Re.c7 (re.kids.take i):Int) 8193+min (k.gD:Int) 8193)=min (Re.c7 (re.kids.take i):Int) 8193+min (k.gD:Int) 8193:=bd _ (by omega);simp only[zX,cQ,dx,dB,dC,dD,gl,ja,jg,jk,mA,eI,eJ,fX,reduceIte,reduceCtorEq,gj,av,Re.ae re,afR,afU,iD,bD,h1,h3,ku,kR,ny,i64,aC,hi0,az,hk,afN,afO,afV,afT];refine aj di (by simp [ah,ah.go,ai,i64,bV,aM]) (by simp [ah,ah.go,ai,i64,bV,aM]) ?_;simp only[zX,cQ,dx,dB,dC,dD,gl,ja,jg,jk,mA,eI,eJ,fX,reduceIte,reduceCtorEq,gj,av,Re.ae re,afR,afU,iD,bD,h1,h3,ku,kR,ny,i64,w1,Rx];refine⟨re.kids.length-(i+1),_,_,by omega,br.cut (s':=[av re]) 1 (by omega) (by simp [av,Re.ae re,iD,bD]) (by simp [av,aG,Re.ae re,ah]) [1,3,18,19,20] (by simp [bz,aH,ah,h1,h3,ku,kR,ny,i64]),i+1,rfl,az,?_,?_,?_,?_,?_,by simp [av,Re.ae re,iD,bD]⟩ <;> (try simp only[zU,gj,cQ,dx,eI,reduceIte])
   ·exact h1
   ·exact ku
   ·exact kR
   ·rw[bd _ (by omega)];rfl
  ·have cV:i=re.kids.length:=by omega
   subst cV;rw[agj]at h3;rw[hz];have w1:IntKind.i64.wrap ((re.kids.length:Int)-1)=(re.kids.length:Int)-1:=bd _ (by omega);have w2:IntKind.i64.wrap (2*((re.kids.length:Int)-1))=2*((re.kids.length:Int)-1):=bd _ (by omega);have w3:IntKind.i64.wrap (min (Re.c7 re.kids:Int) 8193+2*((re.kids.length:Int)-1))=min (Re.c7 re.kids:Int) 8193+2*((re.kids.length:Int)-1):=bd _ (by omega);simp only[zX,cQ,dx,dB,dC,dD,gl,ja,jg,jk,mA,eI,eJ,fX,reduceIte,reduceCtorEq,gj,av,Re.ae re,afR,afU,iD,bD,h1,h3,ku,kR,ny,i64,o,agO,afN,w1,w2,w3]
 case inr.inr.inr.inr.inr.inr.inl =>
  obtain⟨x,hx⟩:=Nn (.inr o);have hz:dm re=min (min (x.gD:Int) 8193+2) 8193:=by rw[dm,Re.kr,uW,ap (by omega),ap (by omega),ap (by omega),be o,hx];simp only[Re.c7];omega
  rw[hz];have di:=ih x (by rw[hx];simp) (iO x (by rw[hx];simp));unfold dm at di;simp only[i64]at di;have uY:re.kids[0]?=some x:=by rw[hx];rfl
  have cU:(0:Int)<(re.kids.length:Int):=by rw[hx];simp
  have w1:IntKind.i64.wrap (min (x.gD:Int) 8193+2)=min (x.gD:Int) 8193+2:=bd _ (by omega);refine an Try.func71 rfl Try.ntmps71 Try.results71 rfl 0 1852271 (by simp) (by simp) ?_;simp only[zX,cQ,dx,dB,dC,dD,gl,ja,jg,jk,mA,eI,eJ,fX,reduceIte,reduceCtorEq,gj,i64,ai re,iD,bD,o,afN,cU,uY];refine aj di (by simp [ah,ah.go,ai,i64,bV,aM]) (by simp [ah,ah.go,ai,i64,bV,aM]) ?_;simp only[zX,cQ,dx,dB,dC,dD,gl,ja,jg,jk,mA,eI,eJ,fX,reduceIte,reduceCtorEq,gj,i64,ai re,iD,bD,o,w1]
 case inr.inr.inr.inr.inr.inr.inr.inl =>
  obtain⟨x,hx⟩:=Nn (.inl o);have hz:=LO (m:=re.mn) (x:=re.mx) (z:=x.gD) (by omega) q4 (q8 o);rw[<- Mp o hx q4 (q8 o)]at hz;have di:=ih x (by rw[hx];simp) (iO x (by rw[hx];simp));have uY:re.kids[0]?=some x:=by rw[hx];rfl
  have cU:(0:Int)<(re.kids.length:Int):=by rw[hx];simp
  unfold dm at di ⊢;rw[<- hz];have UZ:0<=min (x.gD:Int) 8193:=by omega
  have hy1:min (x.gD:Int) 8193<=8193:=by omega
  generalize min (x.gD:Int) 8193=y at *;simp only[i64]at di;have e1:0<=re.mn*y/\re.mn*y<=32*y:=⟨ahm q4 UZ,agB q5 UZ⟩
  have w1:IntKind.i64.wrap (re.mn*y)=re.mn*y:=bd _ (by omega);by_cases hm:re.mx=-1
  ·have w2:IntKind.i64.wrap (y+2)=y+2:=bd _ (by omega);have w3:IntKind.i64.wrap (re.mn*y+(y+2))=re.mn*y+(y+2):=bd _ (by omega);rw[be hm];have u5:decide (re.mx=-1)=true:=bi hm;refine an Try.func71 rfl Try.ntmps71 Try.results71 rfl 0 1852271 (by simp) (by simp) ?_;simp only[zX,cQ,dx,dB,dC,dD,gl,ja,jg,jk,mA,eI,eJ,fX,reduceIte,reduceCtorEq,gj,i64,ai re,iD,bD,o,afN,cU,uY];refine aj di (by simp [ah,ah.go,ai,i64,bV,aM]) (by simp [ah,ah.go,ai,i64,bV,aM]) ?_;simp only[zX,cQ,dx,dB,dC,dD,gl,ja,jg,jk,mA,eI,eJ,fX,reduceIte,reduceCtorEq,gj,i64,ai re,iD,bD,o,u5,w1,w2,w3]
  ·have e2:0<=(re.mx-re.mn)*(y+1)/\(re.mx-re.mn)*(y+1)<=32*(y+1):=by obtain⟨h1,h2⟩:=(q8 o).resolve_left hm;exact⟨ahm (by omega) (by omega),agB (by omega) (by omega)⟩
   have w2:IntKind.i64.wrap (y+1)=y+1:=bd _ (by omega);have w3:IntKind.i64.wrap (re.mx-re.mn)=re.mx-re.mn:=bd _ (by omega);have w4:IntKind.i64.wrap ((re.mx-re.mn)*(y+1))=(re.mx-re.mn)*(y+1):=bd _ (by omega);have w5:IntKind.i64.wrap (re.mn*y+(re.mx-re.mn)*(y+1))=re.mn*y+(re.mx-re.mn)*(y+1):=bd _ (by omega);rw[ap hm];have u5:decide (re.mx=-1)=false:=b6 hm;refine an Try.func71 rfl Try.ntmps71 Try.results71 rfl 0 1852271 (by simp) (by simp) ?_;simp only[zX,cQ,dx,dB,dC,dD,gl,ja,jg,jk,mA,eI,eJ,fX,reduceIte,reduceCtorEq,gj,i64,ai re,iD,bD,o,afN,cU,uY];refine aj di (by simp [ah,ah.go,ai,i64,bV,aM]) (by simp [ah,ah.go,ai,i64,bV,aM]) ?_;simp only[zX,cQ,dx,dB,dC,dD,gl,ja,jg,jk,mA,eI,eJ,fX,reduceIte,reduceCtorEq,gj,i64,ai re,iD,bD,o,u5,w1,w2,w3,w4,w5]
 all_goals rw[mT (by omega)]
 all_goals
  refine an Try.func71 rfl Try.ntmps71 Try.results71 rfl 0 1852271 (by simp) (by simp) ?_;simp only[zX,cQ,dx,dB,dC,dD,gl,ja,jg,jk,mA,eI,eJ,fX,reduceIte,reduceCtorEq,gj,i64,ai re,iD,bD,o];rfl
def Qg (R:Nat->Prop) (i:ay):Prop:=(0<=i.op/\i.op<=5)/\(i.op=1->∃re k,i.node=some (re,k)/\re.op=1/\re.set.length<=1000000) /\
 (i.op=5->∃re k,i.node=some (re,k)/\re.op≠1/\(re.op=11->0<=re.n/\re.n<=5)/\(re.op≠11->R k))
def GZ (B:Nat) (i:ay):Prop:=0<=i.x/\i.x<=B/\0<=i.y/\i.y<=B
def CP (R:Nat->Prop) (C:List ay):Prop:=(∀i∈C,Qg R i)/\∀i∈C,GZ C.length i
theorem GZ.mono {B B':Nat} (h:B<=B') {i:ay} (k:GZ B i):GZ B' i:=⟨k.1,aho k.2.1 (by omega),k.2.2.1,aho k.2.2.2 (by omega)⟩
theorem CP.add (h:CP R C) {i:ay} (hp:Qg R i) (hq:GZ (C.length+1) i):CP R (C++[i]):=by
 refine⟨λj hj=>?_,λj hj=>?_⟩
 ·rcases List.mem_append.1 hj with hj|hj
  ·exact h.1 j hj
  ·rw[List.mem_singleton.1 hj];exact hp
 ·rw[af7,agv];rcases List.mem_append.1 hj with hj|hj
  ·exact(h.2 j hj).mono (by omega)
  ·rw[List.mem_singleton.1 hj];exact hq
theorem CP.xy (h:CP R C) {c:Nat}{x y:Int} (hx:0<=x/\x<=C.length) (hy:0<=y/\y<=C.length):CP R (yn C c x y):=by
 refine⟨λj hj=>?_,λj hj=>?_⟩
 ·unfold yn at hj;by_cases hc:c<C.length
  ·rcases agU hj with hj|rfl
   ·exact h.1 j hj
   ·have hm:eV C c∈C:=by unfold eV;rw[af9,afP hc];exact List.getElem_mem hc
    have h0:=h.1 _ hm;exact h0
  ·have hj2:j∈C:=by rw[List.set_eq_of_length_le (by omega)]at hj;exact hj
   exact h.1 j hj2
 ·rw[nm];unfold yn at hj;rcases agU hj with hj|rfl
  ·exact h.2 j hj
  ·exact⟨hx.1,hx.2,hy.1,hy.2⟩
theorem X8 (h:CP R C) (c:Nat):0<=(eV C c).y/\(eV C c).y<=C.length:=by
 by_cases hc:c<C.length
 ·have hm:eV C c∈C:=by unfold eV;rw[af9,afP hc];exact List.getElem_mem hc
  exact(h.2 _ hm).2.2
 ·have:eV C c=⟨0,0,0,0,none⟩:=by unfold eV;rw[af9,agG (by omega)];rfl
  rw[this];simp
theorem CP.xs:∀(J:List Nat) {C:List ay}{E:Nat},CP R C->C.length=E->CP R (J.foldl (xO E) C)
 |[],_,_,h,_=>h
 |c::J,C,E,h,hE=>by rw[List.foldl_cons];refine CP.xs J ?_ (by rw[K9];exact hE);exact h.xy ⟨by omega,by omega⟩ (X8 h c)
theorem CP.KK (mode:Int):∀(J:List Nat) {C:List ay},CP R C->(∀c∈J,c<C.length)->CP R (J.foldl (pY mode) C)
 |[],_,h,_=>h
 |c::J,C,h,hJ=>by
  rw[List.foldl_cons];have hc:=hJ c (by simp);refine CP.KK mode J ?_ (λd hd=>by rw[Hu];exact hJ d (by simp [hd]));unfold pY;split
  ·exact h.xy ⟨by omega,by omega⟩ ⟨by omega,by omega⟩
  ·exact h.xy ⟨by omega,by omega⟩ ⟨by omega,by omega⟩
theorem Cq (x y:Int):Qg R (eT x y):=⟨by simp [eT],λh=>absurd h (by simp [eT]),λh=>absurd h (by simp [eT])⟩
theorem IW (x:Int):Qg R (lZ x):=⟨by simp [lZ],λh=>absurd h (by simp [lZ]),λh=>absurd h (by simp [lZ])⟩
theorem JG (x:Int):Qg R (jE x):=⟨by simp [jE],λh=>absurd h (by simp [jE]),λh=>absurd h (by simp [jE])⟩
theorem CP.iter{f:List ay->List ay} (hf:∀C,CP R C->CP R (f C)):∀n C,CP R C->CP R (iS f n C)
 |0,_,h=>h
 |n+1,C,h=>hf _ (CP.iter hf n C h)
theorem Mj (R:Nat->Prop) (re:Re):re.every mv=true->∀k,(∀j,k<=j->j<k+re.looks->R j)->∀C,CP R C->CP R (re.emit k C):=by
 refine Re.ind (Q:=λre=>re.every mv=true->∀k,(∀j,k<=j->j<k+re.looks->R j)->∀C,CP R C->CP R (re.emit k C)) (λre ih hs k hR C hC=>?_) re;obtain⟨ez,iO⟩:=(Re.aB re).1 hs;obtain⟨q1,q2,q3,q4,q5,q6,q7,q8,q9,iF,kM,CV,q13,q14,q15⟩:=jS.1 ez;have q0:∀{n:Nat},GZ (n+1) (eT 0 0):=λ{n}=>⟨by simp [eT],by simp [eT];omega,by simp [eT],by simp [eT];omega⟩
 rw[Re.ln];by_cases o1:re.op=1
 ·rw[be o1];exact hC.add ⟨by simp [xQ],λ_=>⟨re,k,rfl,o1,q15⟩,λh=>absurd h (by simp [xQ])⟩ ⟨by simp [xQ],by simp [xQ];omega,by simp [xQ],by simp [xQ];omega⟩
 rw[ap o1];by_cases o7:re.op=11\/re.op=7\/re.op=8
 ·rw[be o7];refine hC.add ⟨by simp [oB],λh=>absurd h (by simp [oB]),λ_=>⟨re,k,rfl,o1,λh=>⟨q9,CV h⟩,λh=>hR k (af3 _) ?_⟩⟩ ⟨by simp [oB],by simp [oB];omega,by simp [oB],by simp [oB];omega⟩;rw[Re.eA,be (o7.resolve_left h)];omega
 rw[ap o7];have C7:re.looks=Re.aD re.kids:=by rw[Re.eA,ap (by omega),afX]
 rw[C7]at hR;have hL:∀(l:List Re) (k:Nat) (C:List ay),(∀x∈l,x∈re.kids)->(∀j,k<=j->j<k+Re.aD l->R j)->CP R C->CP R (Re.dn l k C):=by
  intro l;induction l with
  |nil=>intro k C _ _ h;exact h
  |cons x l yM =>
   intro k C hm hR h;rw[Re.aD]at hR;rw[Re.dn];exact yM _ _ (λy hy=>hm y (by simp [hy])) (λj h1 h2=>hR j (by omega) (by omega)) (ih x (hm x (by simp)) (iO x (hm x (by simp))) k (λj h1 h2=>hR j h1 (by omega)) C h)
 by_cases o2:re.op=2
 ·rw[be o2];exact hL _ _ _ (λ_ h=>h) hR hC
 rw[ap o2];by_cases o3:re.op=3
 ·rw[be o3];have hA:∀(l:List Re) (k:Nat) (C:List ay) (J:List Nat),(∀x∈l,x∈re.kids)->(∀j,k<=j->j<k+Re.aD l->R j)->CP R C->CP R (Re.ow l k C J):=by
   intro l;induction l with
   |nil=>intro k C J _ _ h;exact h
   |cons x l yM =>
    intro k C J hm hR h;rw[Re.aD]at hR;have hx:=λC h=>ih x (hm x (by simp)) (iO x (hm x (by simp))) k (λj h1 h2=>hR j h1 (by omega)) C h;cases l with
    |nil =>
     rw[Re.ow];exact CP.xs J (hx C h) rfl
    |cons y l =>
     rw[Re.ow];have h2:=hx _ (h.add (Cq 0 0) q0);have CZ:=Re.gi x k (C++[eT 0 0]);rw[af7,agv]at CZ;generalize x.emit k (C++[eT 0 0])=D at *;have h3:CP R (D++[lZ 0]):=h2.add (IW 0) ⟨by simp [lZ],by simp [lZ];omega,by simp [lZ],by simp [lZ];omega⟩;refine yM _ _ _ (λz hz=>hm z (by simp only[agV]at hz ⊢;exact .inr hz)) (λj h1 h2=>hR j (by omega) (by omega)) (h3.xy ?_ ?_)
     ·rw[af7,agv];exact⟨by omega,by omega⟩
     ·rw[af7,agv];exact⟨by omega,by omega⟩
   done
  exact hA _ _ _ _ (λ_ h=>h) hR hC
 rw[ap o3];by_cases o5:re.op=5
 ·rw[be o5];exact(hL _ _ _ (λ_ h=>h) hR (hC.add (JG _) ⟨by simp [jE],by simp [jE];omega,by simp [jE],by simp [jE];omega⟩)).add (JG _) ⟨by simp [jE],by simp [jE];omega,by simp [jE],by simp [jE];omega⟩
 rw[ap o5];by_cases o4:re.op=4
 ·rw[be o4];have hf:∀C,CP R C->CP R (Re.dn re.kids k C):=λC h=>hL _ _ _ (λ_ h=>h) hR h;have Vw:∀C,(Re.dn re.kids k C).length=C.length+Re.c7 re.kids:=λC=>Re.uu _ _ _;have h1:=CP.iter hf re.mn.toNat C hC;unfold mW;simp only;generalize iS (λC=>Re.dn re.kids k C) re.mn.toNat C=C1 at *;split
  ·have h2:=hf _ (h1.add (Cq 0 0) q0);have CZ:=Vw (C1++[eT 0 0]);rw[af7,agv]at CZ;generalize Re.dn re.kids k (C1++[eT 0 0])=D at *;refine CP.KK _ _ (h2.add (IW _) ⟨by simp [lZ],by simp [lZ];omega,by simp [lZ],by simp [lZ];omega⟩) (λc hc=>?_);rw[List.mem_singleton]at hc;rw[af7,agv];omega
  ·have h2:CP R (ki (λC=>Re.dn re.kids k C) (re.mx-re.mn).toNat C1).1:=by
    have:∀n,CP R (ki (λC=>Re.dn re.kids k C) n C1).1:=by
     intro n;induction n with
     |zero=>exact h1
     |succ n VW=>exact hf _ (VW.add (Cq 0 0) q0)
    exact this _
   refine CP.KK _ _ h2 (λc hc=>?_);have:∀n,∀c∈(ki (λC=>Re.dn re.kids k C) n C1).2,c<(ki (λC=>Re.dn re.kids k C) n C1).1.length:=by
    intro n;induction n with
    |zero=>intro c hc;simp [ki]at hc
    |succ n VW =>
     intro c hc;simp only[ki,List.mem_append,List.mem_singleton]at hc;simp only[ki,Vw,af7,agv];rcases hc with hc|rfl
     ·have:=VW c hc;omega
     ·omega
   exact this _ c hc
 rw[ap o4];exact hC
end Go.Proofs.Ytfmdmlfhigocaaa
