/- A part of the proof. -/
import Derived.Test.YtjjfioalgbecmaaGreatOA18
set_option linter.unusedSimpArgs false
set_option linter.unusedVariables false
open Nat renaming reduceShiftRight → qa, reduceMod → qe, reduceEqDiff → Fp, reduceBEq → Ft
set_option maxRecDepth 100000
set_option maxHeartbeats 80000000
namespace Go.Proofs.YtjjfioalgbecmaaGreat
open Go.VL Go.Proofs.Tryz
variable{re:Re}{R:Nat->Prop}{C:List aw}
def SO (re:Re):Bool:=decide ((re.op=4\/re.op=5->1<=re.kids.length)/\(re.op=3->2<=re.kids.length)/\re.kids.length<=1000/\re.set.length<=1000000/\0<=re.mn/\re.mn<=32/\-1<=re.mx/\re.mx<=32/\(re.mx=-1\/re.mx=0\/re.mn<=re.mx)/\jD re.n/\re.n<=1000000/\-1000000<=re.n)
theorem fE:SO re=true ↔ ((re.op=4\/re.op=5->1<=re.kids.length)/\(re.op=3->2<=re.kids.length)/\re.kids.length<=1000/\re.set.length<=1000000/\0<=re.mn/\re.mn<=32/\-1<=re.mx/\re.mx<=32/\(re.mx=-1\/re.mx=0\/re.mn<=re.mx)/\jD re.n/\re.n<=1000000/\-1000000<=re.n):=decide_eq_true_iff
theorem P4 (re:Re):∀a:List Int,re.every SO=true->re.size<=1000000->a.length+re.size<=2000000->aS prog 37 [lI re,.d (ar a)] (bV (re.comp a)):=by
 induction re using Re.ind with
 |h re ih =>
 intro a hs hz ha;obtain⟨dL,jG⟩:=(Re.az re).1 hs;obtain⟨q1,q2,q3,q4,q5,q6,q7,q8,q9,jd⟩:=fE.1 dL;have gr:=Re.size_eq re;have iw:∀a':List Int,a'.length<=a.length+1->∀k∈re.kids,aS prog 37 [lI k,.d (ar a')] (bV (k.comp a')):=λa' RC k hk =>
  ih k hk a' (jG k hk) (by have:=Re.bZ hk;omega) (by have:=Re.bZ hk;omega)
 by_cases c1:re.op=4/\(re.mode=2\/Re.qb re.kids=true)
 ·rw[Re.wu,be c1];obtain⟨o4,c1⟩:=c1;obtain⟨k,l,hk⟩:=List.exists_cons_of_length_pos (q1 (.inl o4));have hm:k∈re.kids:=by rw[hk];simp
  have jX:re.kids[0]?=some k:=by rw[hk];rfl
  have hlen:(0:Int)<(re.kids.length:Int):=by rw[hk];simp
  have hn:=iF k (by have:=Re.bZ hm;omega);rw[hk]at c1;by_cases cm:re.mode=2
  ·refine br func37 ntmps37 results37 0 247 ?_;simp only[zI,simprocAttr,au re,iD,bD,o4,cm];rfl
  ·have cn:k.sQ=true:=c1.resolve_left cm;rw[cn]at hn;refine br func37 ntmps37 results37 0 247 ?_;simp only[zI,simprocAttr,au re,iD,bD,o4,cm,jX,hlen];refine dk hn ?_;simp only[zI,simprocAttr,au re,iD,bD,bV]
 have U0:¬(re.op=4/\(re.mode=2\/Re.qb re.kids=true)):=c1;by_cases c2:re.op=5
 ·have hh:=UU a re.n ae;by_cases c3:re.n∈a
  ·rw[Re.wu,ap c1,be ⟨c2,c3⟩];rw[bi c3]at hh;refine br func37 ntmps37 results37 0 247 ?_;simp only[zI,simprocAttr,au re,iD,bD,c2,ar];refine dk hh ?_;simp only[zI,simprocAttr,au re,iD,bD,bV,c2]
  ·rw[Re.wu,ap c1,ap (λh=>c3 h.2),bm,be c2];rw[ce c3]at hh;have uj:∀e∈(a.map λx=>[iD x]).map (λx=>x.map V.d),e.length=1:=λe he=>by obtain⟨x,hx,rfl⟩:=List.mem_map.1 he;obtain⟨p,_,rfl⟩:=List.mem_map.1 hx;rfl
   refine br func37 ntmps37 results37 0 247 ?_;simp only[zI,simprocAttr,au re,iD,bD,c2,ar];refine dk hh ?_;simp only[zI,simprocAttr,au re,iD,bD,bV,c2,alk];refine aW (gQ 6 1 rfl) ?_;refine cP mix [] [(2,[1],[1]),(6,[1],[1])] ?_;simp only[zI,simprocAttr,au re,iD,bD,bV,c2];refine⟨rfl,uj,ae,rfl,λe he=>by rw[List.mem_singleton.1 he];rfl,⟨ae,ae⟩,?_⟩;have hL:=iw (a++[re.n]) aq;generalize haa:a++[re.n]=aa at *;refine ay (λn e s=>∃i:Nat,n=re.kids.length-i/\i<=re.kids.length/\e 1=.d (ar aa)/\e 2=.rf 0 0 0 0/\e 7=i64 i/\(∀x∈re.kids.take i,x.comp aa=true)/\s=[aL re])
    ⟨_,_,_,OH (s':=[aL re]) 1 (aa.map λx=>[iD x]) 1 [1,2,7] rfl rfl ?_ ?_ ae (ale _) ?_ (by simp [aL,Re.ah re,aY,ak,iD,bD]) rfl,0,rfl,ae,?_,?_,?_,aq,rfl⟩ ?_
   ·rw[alV,<- haa,aln aq,aln aq];simp [iD]
   ·simp
   ·simp [aL,Re.ah re,iD,bD,c2]
   ·rfl
   ·rfl
   ·rfl
   exact Zad
 ·have hL:=iw a ae;by_cases c3:5<re.op/\re.op≠11
  ·rw[Re.wu,ap c1,ap (λh=>c2 h.1),be c3];have c4:re.op≠4:=ae;have c5:=c3.1;have c6:=c3.2;refine br func37 ntmps37 results37 0 247 ?_;simp only[zI,simprocAttr,au re,iD,bD,bV,c2,c4,c5,c6,gt_iff_lt,ne_eq,not_false_eq_true]
  ·rw[Re.wu,ap c1,ap (λh=>c2 h.1),ap c3,ap c2];generalize a=aa at *;by_cases o4:re.op=4
   ·have cm:re.mode≠2:=λh=>c1 ⟨o4,.inl h⟩;obtain⟨k,l,hk⟩:=List.exists_cons_of_length_pos (q1 (.inl o4));have cn:k.sQ=false:=by
     cases h:k.sQ with
     |false=>rfl
     |true=>exact absurd ⟨o4,.inr (by rw[hk];exact h)⟩ c1
    have hm:k∈re.kids:=by rw[hk];simp
    have jX:re.kids[0]?=some k:=by rw[hk];rfl
    have hlen:(0:Int)<(re.kids.length:Int):=by rw[hk];simp
    have hn:=iF k (by have:=Re.bZ hm;omega);rw[cn]at hn;refine br func37 ntmps37 results37 0 247 ?_;simp only[zI,simprocAttr,au re,iD,bD,o4,cm,jX,hlen];refine dk hn ?_;simp only[zI,simprocAttr,au re,iD,bD,bV,o4,alk,gt_iff_lt];exact ZdV
   ·by_cases c5:5<re.op
    ·have c6:re.op=11:=by omega
     refine br func37 ntmps37 results37 0 247 ?_;simp only[zI,simprocAttr,au re,iD,bD,bV,c6,alk,gt_iff_lt,ne_eq,not_true_eq_false];refine ay (λn e s=>∃i:Nat,n=re.kids.length-i/\i<=re.kids.length/\e 1=.d (ar aa)/\e 2=.rf 0 0 0 0/\e 7=i64 i/\(∀x∈re.kids.take i,x.comp aa=true)/\s=[aL re])
      ⟨_,_,_,bO.refl,0,rfl,ae,rfl,rfl,rfl,aq,by simp [aL,Re.ah re,iD,bD,c6]⟩ ?_
     exact Zad
    ·refine br func37 ntmps37 results37 0 247 ?_;simp only[zI,simprocAttr,au re,iD,bD,bV,o4,c5,c2,alk,gt_iff_lt,ne_eq,not_true_eq_false];exact ZdV
def ed (re:Re):Int:=min (re.dp:Int) 8193
def mF (re:Re):Bool:=decide ((re.op=4\/re.op=5\/re.op=7\/re.op=8->re.kids.length=1)/\(re.op=3->2<=re.kids.length)/\re.kids.length<=1000/\0<=re.mn/\re.mn<=32/\-1<=re.mx/\re.mx<=32/\(re.op=4->re.mx=-1\/(1<=re.mx/\re.mn<=re.mx))/\0<=re.n/\re.n<=9/\(re.op=5->1<=re.n)/\(re.op=11->re.n<=5)/\0<=re.op/\re.op<=11/\re.set.length<=1000000)
theorem je:mF re=true ↔ (re.op=4\/re.op=5\/re.op=7\/re.op=8->re.kids.length=1)/\(re.op=3->2<=re.kids.length)/\re.kids.length<=1000/\0<=re.mn/\re.mn<=32/\-1<=re.mx/\re.mx<=32/\(re.op=4->re.mx=-1\/(1<=re.mx/\re.mn<=re.mx))/\0<=re.n/\re.n<=9/\(re.op=5->1<=re.n)/\(re.op=11->re.n<=5)/\0<=re.op/\re.op<=11/\re.set.length<=1000000:=by unfold mF;rw[decide_eq_true_eq]
theorem EW (h:re.every mF=true):re.every OR=true:=iN (λr h=>by
 obtain⟨q1,q2,q3,q4,q5,q6,q7,q8,q9,jd,_⟩:=je.1 h;exact ta.2 ⟨λh=>q1 ae,λh=>by have:=q2 h;omega,ae,q4,ae,q6,ae,q9,ae⟩) re h
theorem Pa {m x z:Int} (hz:0<=z) (m0:0<=m) (h:x=-1\/(1<=x/\m<=x)) :
  min (if x=-1 then m*min z 8193+(min z 8193+2) else m*min z 8193+(x-m)*(min z 8193+1)) 8193=min (if x=-1 then m*z+z+2 else m*z+(x-m)*(z+1)) 8193:=by
 by_cases hc:z<=8193
 ·rw[Int.min_eq_left hc];by_cases hx:x=-1
  ·rw[be hx,be hx,Int.add_assoc]
  ·rw[ap hx,ap hx]
 ·rw[show min z 8193=8193 by omega];by_cases hx:x=-1
  ·rw[be hx,be hx];have h1:0<=m*8193:=amn m0 ae;have h2:0<=m*z:=amn m0 hz;omega
  ·rw[ap hx,ap hx];obtain⟨h1,h2⟩:=h.resolve_left hx;have key:∀y:Int,8193<=y->8193<=m*y+(x-m)*(y+1):=by
    intro y hy;have e1:0<=(x-m)*(y+1):=amn ae ae;have e2:0<=m*y:=amn m0 ae;by_cases hm:1<=m
    ·have:1*y<=m*y:=alI hm ae;omega
    ·have Dm:m=0:=by omega
     subst Dm;have:1*(y+1)<=(x-0)*(y+1):=alI ae ae;omega
   have k1:=key 8193 ae;have k2:=key z ae;omega
theorem PU {x:Re} (o:re.op=4) (hk:re.kids=[x]) (m0:0<=re.mn) (h:re.mx=-1\/(1<=re.mx/\re.mn<=re.mx)):(re.dp:Int)=if re.mx=-1 then re.mn*x.dp+x.dp+2 else re.mn*x.dp+(re.mx-re.mn)*(x.dp+1):=by
 rw[Re.ga,nW,bm,bm,bm,bm,be o,hk];have e1:((re.mn.toNat:Nat):Int)=re.mn:=ae;by_cases hx:re.mx=-1
 ·rw[be hx,be hx];simp only[Re.cC,al8]
  push_cast
  rw[e1];generalize re.mn*(x.dp:Int)=y;omega
 ·rw[ap hx,ap hx];simp only[Re.cC,al8];have e2:(((re.mx-re.mn).toNat:Nat):Int)=re.mx-re.mn:=ae
  push_cast
  rw[e1,e2]
theorem Ed (re:Re):re.every mF=true->aS Tryz.prog 59 [lI re] (i64 (ed re)):=by
 induction re using Re.ind with
 |h re ih =>
 intro hs;obtain⟨dL,jG⟩:=(Re.az re).1 hs;obtain⟨q1,q2,q3,q4,q5,q6,q7,q8,q9,jd,_,_,q13,q14,_⟩:=je.1 dL;have n9:re.op=1\/re.op=11\/re.op=7\/re.op=8\/re.op=2\/re.op=3\/re.op=5\/re.op=4\/re.op=0\/re.op=6\/re.op=9\/re.op=10:=ae;have tU:(re.op=1\/re.op=11\/re.op=7\/re.op=8)->ed re=1:=λh=>by rw[ed,Re.ga,nW,be h];rfl
 have iL:(re.op=0\/re.op=6\/re.op=9\/re.op=10)->ed re=0:=λh=>by rw[ed,Re.ga,nW,bm,bm,bm,bm,bm];rfl
 have Q3:(re.op=4\/re.op=5)->∃x,re.kids=[x]:=λh=>List.length_eq_one_iff.1 (q1 ae);rcases n9 with o|o|o|o|o|o|o|o|o|o|o|o
 case inl=>rw[tU ae];refine br Tryz.func59 Tryz.ntmps59 Tryz.results59 0 1852271 ?_;simp only[zI,simprocAttr,au re,iD,bD,o]
 case inr.inl=>rw[tU ae];refine br Tryz.func59 Tryz.ntmps59 Tryz.results59 0 1852271 ?_;simp only[zI,simprocAttr,au re,iD,bD,o]
 case inr.inr.inl=>rw[tU ae];refine br Tryz.func59 Tryz.ntmps59 Tryz.results59 0 1852271 ?_;simp only[zI,simprocAttr,au re,iD,bD,o]
 case inr.inr.inr.inl=>rw[tU ae];refine br Tryz.func59 Tryz.ntmps59 Tryz.results59 0 1852271 ?_;simp only[zI,simprocAttr,au re,iD,bD,o]
 case inr.inr.inr.inr.inl =>
  have hz:ed re=min (min (Re.cC re.kids:Int) 8193) 8193:=by rw[ed,Re.ga,nW,bm,be o];omega
  refine br Tryz.func59 Tryz.ntmps59 Tryz.results59 0 1852271 ?_;simp only[zI,simprocAttr,au re,iD,bD,o];refine ay (λn e s=>∃i:Nat,n=re.kids.length-i/\i<=re.kids.length/\e 1=.rf 0 0 0 0/\e 3=i64 (min (Re.cC (re.kids.take i):Int) 8193)/\e 18=.d (.sl (re.kids.map Re.cells))/\e 19=i64 re.kids.length/\e 20=i64 i/\s=[aL re]) ⟨_,_,_,bO.refl,0,rfl,ae,rfl,rfl,rfl,rfl,rfl,by simp [aL,Re.ah re,iD,bD,o]⟩ ?_;rintro n e s ⟨i,rfl,hi,h1,h3,lh,lT,ku,rfl⟩;rcases alw i re.kids.length with aE|gE
  ·exact Zak
  ·have eg:i=re.kids.length:=by omega
   subst eg;rw[alr]at h3;rw[hz];simp only[zX,simprocAttr,aL,Re.ah re,ak8,ak9,iD,bD,h1,h3,lh,lT,ku,i64,o,alZ]
 case inr.inr.inr.inr.inr.inl =>
  have hz:ed re=min (min (Re.cC re.kids:Int) 8193+2*((re.kids.length:Int)-1)) 8193:=by have:=q2 o;rw[ed,Re.ga,nW,bm,bm,be o];omega
  refine br Tryz.func59 Tryz.ntmps59 Tryz.results59 0 1852271 ?_;simp only[zI,simprocAttr,au re,iD,bD,o];refine ay (λn e s=>∃i:Nat,n=re.kids.length-i/\i<=re.kids.length/\e 1=.rf 0 0 0 0/\e 3=i64 (min (Re.cC (re.kids.take i):Int) 8193)/\e 18=.d (.sl (re.kids.map Re.cells))/\e 19=i64 re.kids.length/\e 20=i64 i/\s=[aL re]) ⟨_,_,_,bO.refl,0,rfl,ae,rfl,rfl,rfl,rfl,rfl,by simp [aL,Re.ah re,iD,bD,o]⟩ ?_;rintro n e s ⟨i,rfl,hi,h1,h3,lh,lT,ku,rfl⟩;rcases alw i re.kids.length with aE|gE
  ·exact Zak
  ·have eg:i=re.kids.length:=by omega
   subst eg;rw[alr]at h3;rw[hz];have w1:IntKind.i64.wrap ((re.kids.length:Int)-1)=(re.kids.length:Int)-1:=bK _ ae;have w2:IntKind.i64.wrap (2*((re.kids.length:Int)-1))=2*((re.kids.length:Int)-1):=bK _ ae;have w3:IntKind.i64.wrap (min (Re.cC re.kids:Int) 8193+2*((re.kids.length:Int)-1))=min (Re.cC re.kids:Int) 8193+2*((re.kids.length:Int)-1):=bK _ ae;simp only[zX,simprocAttr,aL,Re.ah re,ak8,ak9,iD,bD,h1,h3,lh,lT,ku,i64,o,alZ,ak4,w1,w2,w3]
 case inr.inr.inr.inr.inr.inr.inl =>
  obtain⟨x,hx⟩:=Q3 (.inr o);have hz:ed re=min (min (x.dp:Int) 8193+2) 8193:=by rw[ed,Re.ga,nW,bm,bm,bm,be o,hx];simp only[Re.cC];omega
  rw[hz];have dw:=ih x (by rw[hx];simp) (jG x (by rw[hx];simp));unfold ed at dw;simp only[i64]at dw;have xg:re.kids[0]?=some x:=by rw[hx];rfl
  have ej:(0:Int)<(re.kids.length:Int):=by rw[hx];simp
  have w1:IntKind.i64.wrap (min (x.dp:Int) 8193+2)=min (x.dp:Int) 8193+2:=bK _ ae;refine br Tryz.func59 Tryz.ntmps59 Tryz.results59 0 1852271 ?_;simp only[zI,simprocAttr,au re,iD,bD,o,ak4,ej,xg];refine dk dw ?_;simp only[zI,simprocAttr,au re,iD,bD,o,w1]
 case inr.inr.inr.inr.inr.inr.inr.inl =>
  obtain⟨x,hx⟩:=Q3 (.inl o);have hz:=Pa (m:=re.mn) (x:=re.mx) (z:=x.dp) ae q4 (q8 o);rw[<- PU o hx q4 (q8 o)]at hz;have dw:=ih x (by rw[hx];simp) (jG x (by rw[hx];simp));have xg:re.kids[0]?=some x:=by rw[hx];rfl
  have ej:(0:Int)<(re.kids.length:Int):=by rw[hx];simp
  unfold ed at dw ⊢;rw[<- hz];have ZR:0<=min (x.dp:Int) 8193:=ae;have hy1:min (x.dp:Int) 8193<=8193:=ae;generalize min (x.dp:Int) 8193=y at *;simp only[i64]at dw;have e1:0<=re.mn*y/\re.mn*y<=32*y:=⟨amn q4 ZR,alI q5 ZR⟩
  have w1:IntKind.i64.wrap (re.mn*y)=re.mn*y:=bK _ ae;by_cases hm:re.mx=-1
  ·have w2:IntKind.i64.wrap (y+2)=y+2:=bK _ ae;have w3:IntKind.i64.wrap (re.mn*y+(y+2))=re.mn*y+(y+2):=bK _ ae;rw[be hm];have lE:decide (re.mx=-1)=true:=bi hm;refine br Tryz.func59 Tryz.ntmps59 Tryz.results59 0 1852271 ?_;simp only[zI,simprocAttr,au re,iD,bD,o,ak4,ej,xg];refine dk dw ?_;simp only[zI,simprocAttr,au re,iD,bD,o,lE,w1,w2,w3]
  ·have e2:0<=(re.mx-re.mn)*(y+1)/\(re.mx-re.mn)*(y+1)<=32*(y+1):=by obtain⟨h1,h2⟩:=(q8 o).resolve_left hm;exact⟨amn ae ae,alI ae ae⟩
   have w2:IntKind.i64.wrap (y+1)=y+1:=bK _ ae;have w3:IntKind.i64.wrap (re.mx-re.mn)=re.mx-re.mn:=bK _ ae;have w4:IntKind.i64.wrap ((re.mx-re.mn)*(y+1))=(re.mx-re.mn)*(y+1):=bK _ ae;have w5:IntKind.i64.wrap (re.mn*y+(re.mx-re.mn)*(y+1))=re.mn*y+(re.mx-re.mn)*(y+1):=bK _ ae;rw[ap hm];have lE:decide (re.mx=-1)=false:=ce hm;refine br Tryz.func59 Tryz.ntmps59 Tryz.results59 0 1852271 ?_;simp only[zI,simprocAttr,au re,iD,bD,o,ak4,ej,xg];refine dk dw ?_;simp only[zI,simprocAttr,au re,iD,bD,o,lE,w1,w2,w3,w4,w5]
 all_goals rw[iL ae]
 all_goals
  refine br Tryz.func59 Tryz.ntmps59 Tryz.results59 0 1852271 ?_;simp only[zI,simprocAttr,au re,iD,bD,o];rfl
def Ug (R:Nat->Prop) (i:aw):Prop:=(0<=i.op/\i.op<=5)/\(i.op=1->∃re k,i.node=some (re,k)/\re.op=1/\re.set.length<=1000000) /\
 (i.op=5->∃re k,i.node=some (re,k)/\re.op≠1/\(re.op=11->0<=re.n/\re.n<=5)/\(re.op≠11->R k))
def JZ (B:Nat) (i:aw):Prop:=0<=i.x/\i.x<=B/\0<=i.y/\i.y<=B
def CP (R:Nat->Prop) (C:List aw):Prop:=(∀i∈C,Ug R i)/\∀i∈C,JZ C.length i
theorem JZ.mono {B B':Nat} (h:B<=B') {i:aw} (k:JZ B i):JZ B' i:=⟨k.1,Int.le_trans k.2.1 ae,k.2.2.1,Int.le_trans k.2.2.2 ae⟩
theorem CP.add (h:CP R C) {i:aw} (hp:Ug R i) (hq:JZ (C.length+1) i):CP R (C++[i]):=by
 refine⟨λj hj=>?_,λj hj=>?_⟩
 ·rcases List.mem_append.1 hj with hj|hj
  ·exact h.1 j hj
  ·rw[List.mem_singleton.1 hj];exact hp
 ·rw[ald,alC];rcases List.mem_append.1 hj with hj|hj
  ·exact(h.2 j hj).mono ae
  ·rw[List.mem_singleton.1 hj];exact hq
theorem CP.xy (h:CP R C) {c:Nat}{x y:Int} (hx:0<=x/\x<=C.length) (hy:0<=y/\y<=C.length):CP R (yi C c x y):=by
 refine⟨λj hj=>?_,λj hj=>?_⟩
 ·unfold yi at hj;by_cases hc:c<C.length
  ·rcases amb hj with hj|rfl
   ·exact h.1 j hj
   ·have hm:bH C c∈C:=by unfold bH;rw[List.getD_eq_getElem?_getD,List.getElem?_eq_getElem hc];exact List.getElem_mem hc
    have h0:=h.1 _ hm;exact h0
  ·have hj2:j∈C:=by rw[List.set_eq_of_length_le ae]at hj;exact hj
   exact h.1 j hj2
 ·rw[oH];unfold yi at hj;rcases amb hj with hj|rfl
  ·exact h.2 j hj
  ·exact⟨hx.1,hx.2,hy.1,hy.2⟩
theorem adq (h:CP R C) (c:Nat):0<=(bH C c).y/\(bH C c).y<=C.length:=by
 by_cases hc:c<C.length
 ·have hm:bH C c∈C:=by unfold bH;rw[List.getD_eq_getElem?_getD,List.getElem?_eq_getElem hc];exact List.getElem_mem hc
  exact(h.2 _ hm).2.2
 ·have:bH C c=⟨0,0,0,0,none⟩:=by unfold bH;rw[List.getD_eq_getElem?_getD,List.getElem?_eq_none ae];rfl
  rw[this];simp
theorem CP.xs:∀(J:List Nat) {C:List aw}{E:Nat},CP R C->C.length=E->CP R (J.foldl (xO E) C)
 |[],_,_,h,_=>h
 |c::J,C,E,h,hE=>by rw[aml];refine CP.xs J ?_ (by rw[Jr];exact hE);exact h.xy ⟨ae,ae⟩ (adq h c)
theorem CP.NR (mode:Int):∀(J:List Nat) {C:List aw},CP R C->(∀c∈J,c<C.length)->CP R (J.foldl (oB mode) C)
 |[],_,h,_=>h
 |c::J,C,h,hJ=>by
  rw[aml];have hc:=hJ c aq;refine CP.NR mode J ?_ (λd hd=>by rw[Ku];exact hJ d (by simp [hd]));unfold oB;split
  ·exact h.xy ⟨ae,ae⟩ ⟨ae,ae⟩
  ·exact h.xy ⟨ae,ae⟩ ⟨ae,ae⟩
theorem EM (x y:Int):Ug R (dh x y):=⟨by simp [dh],λh=>absurd h (by simp [dh]),λh=>absurd h (by simp [dh])⟩
theorem L3 (x:Int):Ug R (jZ x):=⟨by simp [jZ],λh=>absurd h (by simp [jZ]),λh=>absurd h (by simp [jZ])⟩
theorem MP (x:Int):Ug R (jo x):=⟨by simp [jo],λh=>absurd h (by simp [jo]),λh=>absurd h (by simp [jo])⟩
theorem CP.iter{f:List aw->List aw} (hf:∀C,CP R C->CP R (f C)):∀n C,CP R C->CP R (iO f n C)
 |0,_,h=>h
 |n+1,C,h=>hf _ (CP.iter hf n C h)
theorem PM (R:Nat->Prop) (re:Re):re.every mF=true->∀k,(∀j,k<=j->j<k+re.looks->R j)->∀C,CP R C->CP R (re.emit k C):=by
 refine Re.ind (Q:=λre=>re.every mF=true->∀k,(∀j,k<=j->j<k+re.looks->R j)->∀C,CP R C->CP R (re.emit k C)) (λre ih hs k hR C hC=>?_) re;obtain⟨dL,jG⟩:=(Re.az re).1 hs;obtain⟨q1,q2,q3,q4,q5,q6,q7,q8,q9,jd,nN,Cp,q13,q14,q15⟩:=je.1 dL;have q0:∀{n:Nat},JZ (n+1) (dh 0 0):=λ{n}=>⟨by simp [dh],by simp [dh];omega,by simp [dh],by simp [dh];omega⟩
 rw[Re.kN];by_cases o1:re.op=1
 ·rw[be o1];exact hC.add ⟨by simp [s9],λ_=>⟨re,k,rfl,o1,q15⟩,λh=>absurd h (by simp [s9])⟩ ⟨by simp [s9],by simp [s9];omega,by simp [s9],by simp [s9];omega⟩
 rw[ap o1];by_cases o7:re.op=11\/re.op=7\/re.op=8
 ·rw[be o7];refine hC.add ⟨by simp [lG],λh=>absurd h (by simp [lG]),λ_=>⟨re,k,rfl,o1,λh=>⟨q9,Cp h⟩,λh=>hR k (ale _) ?_⟩⟩ ⟨by simp [lG],by simp [lG];omega,by simp [lG],by simp [lG];omega⟩;rw[Re.jc,be (o7.resolve_left h)];omega
 rw[ap o7];have yh:re.looks=Re.bd re.kids:=by rw[Re.jc,bm,alc]
 rw[yh]at hR;have hL:∀(l:List Re) (k:Nat) (C:List aw),(∀x∈l,x∈re.kids)->(∀j,k<=j->j<k+Re.bd l->R j)->CP R C->CP R (Re.dn l k C):=by
  intro l;induction l with
  |nil=>intro k C _ _ h;exact h
  |cons x l Gb =>
   intro k C hm hR h;rw[Re.bd]at hR;rw[Re.dn];exact Gb _ _ (λy hy=>hm y (by simp [hy])) (λj h1 h2=>hR j ae ae) (ih x (hm x aq) (jG x (hm x aq)) k (λj h1 h2=>hR j h1 ae) C h)
 by_cases o2:re.op=2
 ·rw[be o2];exact hL _ _ _ (λ_ h=>h) hR hC
 rw[ap o2];by_cases o3:re.op=3
 ·rw[be o3];have hA:∀(l:List Re) (k:Nat) (C:List aw) (J:List Nat),(∀x∈l,x∈re.kids)->(∀j,k<=j->j<k+Re.bd l->R j)->CP R C->CP R (Re.mr l k C J):=by
   intro l;induction l with
   |nil=>intro k C J _ _ h;exact h
   |cons x l Gb =>
    intro k C J hm hR h;rw[Re.bd]at hR;have hx:=λC h=>ih x (hm x aq) (jG x (hm x aq)) k (λj h1 h2=>hR j h1 ae) C h;cases l with
    |nil =>
     rw[Re.mr];exact CP.xs J (hx C h) rfl
    |cons y l =>
     rw[Re.mr];have h2:=hx _ (h.add (EM 0 0) q0);have BT:=Re.eR x k (C++[dh 0 0]);rw[ald,alC]at BT;generalize x.emit k (C++[dh 0 0])=D at *;have h3:CP R (D++[jZ 0]):=h2.add (L3 0) ⟨by simp [jZ],by simp [jZ];omega,by simp [jZ],by simp [jZ];omega⟩;refine Gb _ _ _ (λz hz=>hm z (by simp only[alT]at hz ⊢;exact .inr hz)) (λj h1 h2=>hR j ae ae) (h3.xy ?_ ?_)
     ·rw[ald,alC];exact⟨ae,ae⟩
     ·rw[ald,alC];exact⟨ae,ae⟩
   done
  exact hA _ _ _ _ (λ_ h=>h) hR hC
 rw[ap o3];by_cases o5:re.op=5
 ·rw[be o5];exact(hL _ _ _ (λ_ h=>h) hR (hC.add (MP _) ⟨by simp [jo],by simp [jo];omega,by simp [jo],by simp [jo];omega⟩)).add (MP _) ⟨by simp [jo],by simp [jo];omega,by simp [jo],by simp [jo];omega⟩
 rw[ap o5];by_cases o4:re.op=4
 ·rw[be o4];have hf:∀C,CP R C->CP R (Re.dn re.kids k C):=λC h=>hL _ _ _ (λ_ h=>h) hR h;have hfl:∀C,(Re.dn re.kids k C).length=C.length+Re.cC re.kids:=λC=>Re.wy _ _ _;have h1:=CP.iter hf re.mn.toNat C hC;unfold mI;simp only;generalize iO (λC=>Re.dn re.kids k C) re.mn.toNat C=C1 at *;split
  ·have h2:=hf _ (h1.add (EM 0 0) q0);have BT:=hfl (C1++[dh 0 0]);rw[ald,alC]at BT;generalize Re.dn re.kids k (C1++[dh 0 0])=D at *;refine CP.NR _ _ (h2.add (L3 _) ⟨by simp [jZ],by simp [jZ];omega,by simp [jZ],by simp [jZ];omega⟩) (λc hc=>?_);rw[alm]at hc;rw[ald,alC];omega
  ·have h2:CP R (gx (λC=>Re.dn re.kids k C) (re.mx-re.mn).toNat C1).1:=by
    have:∀n,CP R (gx (λC=>Re.dn re.kids k C) n C1).1:=by
     intro n;induction n with
     |zero=>exact h1
     |succ n ihn=>exact hf _ (ihn.add (EM 0 0) q0)
    exact this _
   refine CP.NR _ _ h2 (λc hc=>?_);have:∀n,∀c∈(gx (λC=>Re.dn re.kids k C) n C1).2,c<(gx (λC=>Re.dn re.kids k C) n C1).1.length:=by
    intro n;induction n with
    |zero=>intro c hc;simp [gx]at hc
    |succ n ihn =>
     intro c hc;simp only[gx,alN,alm]at hc;simp only[gx,hfl,ald,alC];rcases hc with hc|rfl
     ·have:=ihn c hc;omega
     ·omega
   exact this _ c hc
 rw[ap o4];exact hC
def JP (re:Re):Bool:=!re.kX||re.kids.all λk=>decide (1+ed k<=8192)
def sL (re:Re):Bool:=decide (1+ed re<=8192)&&re.every JP
def pB:VL.Obj:=⟨0,true,1,[[.cl (.func 58) [] [.rf 0 0 0 0]]]⟩
theorem Dq (re:Re):0<=ed re/\ed re<=8193:=by unfold ed;omega
def I7 (re:Re):Prop:=av Tryz.prog 58 [lI re,.rf 0 0 0 0] [pB] λv s=>v=bV (re.every JP)/\s=[pB]
theorem OF (h:I7 re) {tl:List VL.Obj}{K:V->List VL.Obj->Prop} (hk:K (bV (re.every JP)) (pB::tl)):av Tryz.prog 58 [lI re,.rf 0 0 0 0] (pB::tl) K:=by
 refine dD [0] h aF rfl rfl ?_ ?_ eh (r':=bV (re.every JP)) rfl ?_
 ·rw[au];simp [aI,aI.go,i64,bV]
 ·rw[au];simp [ak,ak.go,i64,bV]
 ·exact hk
theorem VH (re:Re):re.every mF=true->I7 re:=by
 induction re using Re.ind with
 |h re ih =>
 intro hs;obtain⟨dL,jG⟩:=(Re.az re).1 hs;obtain⟨_,_,q3,_⟩:=je.1 dL;unfold I7;refine br Tryz.func58 Tryz.ntmps58 Tryz.results58 1 943 ?_;simp only[zI,simprocAttr,au re,iD,bD];refine ay (λn e s=>∃i:Nat,n=re.kids.length-i/\i<=re.kids.length/\e 1=.rf 0 0 0 0/\e 2=.rf 1 0 0 0/\e 7=.d (.sl (re.kids.map Re.cells))/\e 8=i64 re.kids.length/\e 9=i64 i/\(∀x∈re.kids.take i,(re.kX=true->1+ed x<=8192)/\x.every JP=true)/\s=[pB,aL re]) ⟨_,_,_,bO.refl,0,rfl,ae,rfl,rfl,rfl,rfl,rfl,aq,by simp [aL,Re.ah re,iD,bD]⟩ ?_;rintro n e s ⟨i,rfl,hi,h1,h2,h7,h8,h9,bR,rfl⟩;rcases alw i re.kids.length with aE|gE
 ·obtain⟨k,hk⟩:∃k,re.kids[i]?=some k:=cb aE;have hm:=List.mem_of_getElem? hk;have aH:(i:Int)<(re.kids.length:Int):=ae;have hi0:(0:Int)<=(i:Int):=ae;have yh:=Ed k (jG k hm);have hlr:=Dq k;have w1:IntKind.i64.wrap (1+ed k)=1+ed k:=bK _ ae;have JQ:=λK hk=>OF (ih k hm (jG k hm)) (tl:=[aL re,⟨0,true,8,[k.cells.map .d]⟩]) (K:=K) hk;have oc:re.kX=true->8192<1+ed k->re.every JP=false:=λh1 h2=>by rw[alP];intro h;have h3:=((Re.az re).1 h).1;unfold JP at h3;rw[h1]at h3;simp only[alh,alB,als,decide_eq_true_eq]at h3;have:=h3 k hm;omega
  have YQ:k.every JP=false->re.every JP=false:=λh=>by rw[alP];intro h3;have:=((Re.az re).1 h3).2 k hm;rw[h]at this;cases this
  simp only[i64]at yh;unfold aL at JQ;rw[Re.ah re]at JQ;generalize hyk:ed k=y at *;have n9:re.op=7\/re.op=8\/(re.op≠7/\re.op≠8):=ae;rcases n9 with o|o|⟨o,o'⟩
  case inl|inr.inl =>
   have hl:re.kX=true:=by unfold Re.kX;simp only[o];rfl
   have LN:¬re.kX=true->False:=λh=>h hl;by_cases c:8192<1+y
   ·rw[oc hl c];simp only[zX,simprocAttr,aL,Re.ah re,ak8,ak9,iD,bD,bV,h1,h2,h7,h8,h9,i64,aH,hi0,aE,hk,ak4,List.getElem?_map,ala,ak7,w1,o,c];refine dk yh ?_;simp only[zX,simprocAttr,aL,Re.ah re,ak8,ak9,iD,bD,bV,h1,h2,h7,h8,h9,i64,aH,hi0,aE,hk,ak4,List.getElem?_map,ala,ak7,w1,o,c];all_goals rfl
   ·cases ej:k.every JP with
    |false =>
     rw[YQ ej];simp only[zX,simprocAttr,aL,Re.ah re,ak8,ak9,iD,bD,bV,h1,h2,h7,h8,h9,i64,aH,hi0,aE,hk,ak4,List.getElem?_map,ala,ak7,w1,o,c];refine dk yh ?_;simp only[zX,simprocAttr,aL,Re.ah re,ak8,ak9,iD,bD,bV,h1,h2,h7,h8,h9,i64,aH,hi0,aE,hk,ak4,List.getElem?_map,ala,ak7,w1,o,c,pB,ali];simp only[o]at JQ;unfold pB at JQ;refine JQ _ ?_;simp only[zX,simprocAttr,aL,Re.ah re,ak8,ak9,iD,bD,bV,h1,h2,h7,h8,h9,i64,aH,hi0,aE,hk,ak4,List.getElem?_map,ala,ak7,w1,o,c,ej,ali];all_goals rfl
    |true =>
     simp only[zX,simprocAttr,aL,Re.ah re,ak8,ak9,iD,bD,bV,h1,h2,h7,h8,h9,i64,aH,hi0,aE,hk,ak4,List.getElem?_map,ala,ak7,w1,o,c];refine dk yh ?_;simp only[zX,simprocAttr,aL,Re.ah re,ak8,ak9,iD,bD,bV,h1,h2,h7,h8,h9,i64,aH,hi0,aE,hk,ak4,List.getElem?_map,ala,ak7,w1,o,c,pB,ali];simp only[o]at JQ;unfold pB at JQ;refine JQ _ ?_;simp only[zX,simprocAttr,aL,Re.ah re,ak8,ak9,iD,bD,bV,h1,h2,h7,h8,h9,i64,aH,hi0,aE,hk,ak4,List.getElem?_map,ala,ak7,w1,o,c,ej,alh];refine⟨re.kids.length-(i+1),_,_,ae,bO.cut (s':=[pB,aL re]) 2 ae (by simp [aL,pB,Re.ah re,iD,bD,o]) (by simp [aL,pB,aY,Re.ah re,ak,ak.go]) [1,2,7,8,9] (by simp [ca,aZ,ak,h1,h2,h7,h8,h9,i64]),i+1,rfl,aE,?_,?_,?_,?_,?_,?_,by simp [aL,pB,Re.ah re,iD,bD,o]⟩ <;> (try simp only[zU,Ft,qa,qe,Fp,reduceIte])
     ·exact h1
     ·exact h2
     ·exact h7
     ·exact h8
     ·rw[bK _ ae];rfl
     ·exact Zcc
  case inr.inr =>
   have LN:¬re.kX=true:=by unfold Re.kX;simp;omega
   cases ej:k.every JP with
   |false =>
    rw[YQ ej];simp only[zX,simprocAttr,aL,Re.ah re,ak8,ak9,iD,bD,bV,h1,h2,h7,h8,h9,i64,aH,hi0,aE,hk,ak4,List.getElem?_map,ala,ak7,w1,o,o',pB,ali];unfold pB at JQ;refine JQ _ ?_;simp only[zX,simprocAttr,aL,Re.ah re,ak8,ak9,iD,bD,bV,h1,h2,h7,h8,h9,i64,aH,hi0,aE,hk,ak4,List.getElem?_map,ala,ak7,w1,o,o',ej,ali];all_goals rfl
   |true =>
    simp only[zX,simprocAttr,aL,Re.ah re,ak8,ak9,iD,bD,bV,h1,h2,h7,h8,h9,i64,aH,hi0,aE,hk,ak4,List.getElem?_map,ala,ak7,w1,o,o',pB,ali];unfold pB at JQ;refine JQ _ ?_;simp only[zX,simprocAttr,aL,Re.ah re,ak8,ak9,iD,bD,bV,h1,h2,h7,h8,h9,i64,aH,hi0,aE,hk,ak4,List.getElem?_map,ala,ak7,w1,o,o',ej,alh];refine⟨re.kids.length-(i+1),_,_,ae,bO.cut (s':=[pB,aL re]) 2 ae (by simp [aL,pB,Re.ah re,iD,bD]) (by simp [aL,pB,aY,Re.ah re,ak,ak.go]) [1,2,7,8,9] (by simp [ca,aZ,ak,h1,h2,h7,h8,h9,i64]),i+1,rfl,aE,?_,?_,?_,?_,?_,?_,by simp [aL,pB,Re.ah re,iD,bD]⟩ <;> (try simp only[zU,Ft,qa,qe,Fp,reduceIte])
    ·exact h1
    ·exact h2
    ·exact h7
    ·exact h8
    ·rw[bK _ ae];rfl
    ·exact Zcc
 ·have eg:i=re.kids.length:=by omega
  subst eg;rw[alr]at bR;have A1:re.every JP=true:=(Re.az re).2 ⟨by
   unfold JP;cases hl:re.kX with
   |false=>rfl
   |true =>
    simp only[alh,alB,als,decide_eq_true_eq];exact λx hx=>(bR x hx).1 hl,λx hx=>(bR x hx).2⟩
  rw[A1];simp only[zX,simprocAttr,aL,Re.ah re,ak8,ak9,iD,bD,bV,h1,h2,h7,h8,h9,i64,alZ];all_goals rfl
mutual
def Re.eC:Re->List Bool->Bool->Bool
 |.mk op _ kids _ _ mode n _,A,look =>
  if op=6\/op=10\/op=9 then false
  else if op=4/\(mode=2\/Re.Ez kids=true) then false
  else if op=5/\(look=true\/A.getD n.toNat false=true) then false
  else Re.LW kids (if op=5 then A.set n.toNat true else A) (look||decide (op=7\/op=8))
def Re.LW:List Re->List Bool->Bool->Bool
 |[],_,_=>true
 |k::l,A,look=>k.eC A look&&Re.LW l A look
def Re.Ez:List Re->Bool
 |[]=>false
 |k::_=>k.iM
end
theorem Re.H8:∀(l:List Re) (A:List Bool) (look:Bool),Re.LW l A look=l.all λk=>k.eC A look
 |[],_,_=>by simp [Re.LW]
 |k::l,A,look=>by simp [Re.LW,Re.H8 l A look]
theorem Re.J9 (re:Re) (A:List Bool) (look:Bool):re.eC A look=if re.op=6\/re.op=10\/re.op=9 then false
  else if re.op=4/\(re.mode=2\/Re.Ez re.kids=true) then false
  else if re.op=5/\(look=true\/A.getD re.n.toNat false=true) then false
  else re.kids.all λk=>k.eC (if re.op=5 then A.set re.n.toNat true else A) (look||decide (re.op=7\/re.op=8)):=by
 cases re;rw[Re.eC,Re.H8];rfl
def kV (A:List Bool):V:=.ag (A.map bV)
def eO (A:List Bool):VL.Obj:=⟨0,true,A.length,[A.map bV]⟩
theorem zy (n:Nat):∀A:List Bool,ak.go n (A.map bV)=true
 |[]=>rfl
 |b::A=>by have:=zy n A;simp only[ak8,ak.go,this,alp];rfl
theorem Vk (re:Re) (hf:re.df=true):re.every mF=true->∀(A:List Bool) (look:Bool),A.length=10->aS Tryz.prog 26 [lI re,kV A,bV look] (bV (re.eC A look)):=by
 revert hf;refine Re.ind (Q:=λre=>re.df=true->re.every mF=true->∀(A:List Bool) (look:Bool),A.length=10->aS Tryz.prog 26 [lI re,kV A,bV look] (bV (re.eC A look))) (λre ih0 hf hs A look hA=>?_) re;obtain⟨_,_,JR⟩:=Re.gK hf;have ih:∀k∈re.kids,k.every mF=true->∀(A:List Bool) (look:Bool),A.length=10->aS Tryz.prog 26 [lI k,kV A,bV look] (bV (k.eC A look)):=λk hk=>ih0 k hk (JR k hk);clear ih0;obtain⟨dL,jG⟩:=(Re.az re).1 hs;obtain⟨q1,q2,q3,q4,q5,q6,q7,q8,q9,jd,nN,Cp,q13,q14,_⟩:=je.1 dL;have n9:re.op=6\/re.op=10\/re.op=9\/re.op=4\/re.op=5\/re.op=7\/re.op=8\/re.op=0\/re.op=1\/re.op=2\/re.op=3\/re.op=11:=ae;rw[Re.J9];rcases n9 with o|o|o|o|o|o|o|o|o|o|o|o
 case inl|inr.inl|inr.inr.inl=>rw[rY];unfold kV;refine br Tryz.func26 Tryz.ntmps26 Tryz.results26 0 62122406972767 ?_;simp only[zI,simprocAttr,au re,iD,bD,bV,o];all_goals rfl
 case inr.inr.inr.inl =>
  rw[bm];obtain⟨x,hx⟩:∃x,re.kids=[x]:=List.length_eq_one_iff.1 (q1 ae);have xg:re.kids[0]?=some x:=by rw[hx];rfl
  have ej:(0:Int)<(re.kids.length:Int):=by rw[hx];simp
  have hnu:=KG x (JR x (by rw[hx];simp));have hxa:Re.Ez re.kids=x.iM:=by rw[hx];simp [Re.Ez]
  simp only[bV,bD]at hnu;by_cases hm:re.mode=2
  ·rw[be ⟨o,.inl hm⟩];unfold kV;refine br Tryz.func26 Tryz.ntmps26 Tryz.results26 0 62122406972767 ?_;simp only[zI,simprocAttr,au re,iD,bD,bV,o,hm];all_goals rfl
  ·cases hxn:x.iM with
   |true =>
    rw[be ⟨o,.inr (by rw[hxa,hxn])⟩];unfold kV;refine br Tryz.func26 Tryz.ntmps26 Tryz.results26 0 62122406972767 ?_;simp only[zI,simprocAttr,au re,iD,bD,bV,o,hm,ak4,ej,xg];refine dk hnu ?_;simp only[zI,simprocAttr,au re,iD,bD,bV,o,hm,hxn];all_goals rfl
   |false =>
    rw[ap (λh=>h.2.elim hm (by rw[hxa,hxn];simp)),bm,bm,show (look||decide (re.op=7\/re.op=8))=look by rw[ce ae,amo]];obtain⟨A2,xl⟩:∃A2,A2=A:=⟨_,rfl⟩
    obtain⟨Bx,yc⟩:∃l,l=look:=⟨_,rfl⟩
    have pI:A2.length=10:=by rw[xl];exact hA
    have x7:∀k∈re.kids,k.eC A2 Bx=false->(re.kids.all λk=>k.eC A look)=false:=λk hk h=>by subst xl yc;rw[amz];exact⟨k,hk,by simp [h]⟩
    have D8:(∀k∈re.kids,k.eC A2 Bx=true)->(re.kids.all λk=>k.eC A look)=true:=λh=>by subst xl yc;rw[als];exact h
    unfold kV;refine br Tryz.func26 Tryz.ntmps26 Tryz.results26 0 62122406972767 ?_;simp only[zI,simprocAttr,au re,iD,bD,bV,o,hm,ak4,ej,xg];refine dk hnu ?_;simp only[zI,simprocAttr,au re,iD,bD,bV,o,hm,hxn];exact Zab
 case inr.inr.inr.inr.inl =>
  have hn5:=nN o;rw[bm,bm];cases look with
  |true =>
   rw[be ⟨o,.inl rfl⟩];unfold kV;refine br Tryz.func26 Tryz.ntmps26 Tryz.results26 0 62122406972767 ?_;simp only[zI,simprocAttr,au re,iD,bD,bV,o];all_goals rfl
  |false =>
   have aaM:re.n.toNat<10:=ae;have n0:(0:Int)<=re.n:=ae;have n1:re.n<((10:Nat):Int):=ae;have n2:re.n<10:=ae;generalize hm:re.n.toNat=m at aaM;obtain⟨y,hy⟩:∃y,A[m]?=some y:=cb;have hyd:A.getD m false=y:=by rw[List.getD_eq_getElem?_getD,hy];rfl
   obtain⟨tl,VW⟩:∃tl,(A.map bV).drop m=.d (.sc (.bool y))::tl:=⟨_,by rw[List.drop_eq_getElem_cons (by simpa [hA]using aaM)];congr 1;rw[List.getElem_map];congr 1;exact(List.getElem?_eq_some_iff.1 hy).2⟩
   cases y with
   |true =>
    rw[be ⟨o,.inr hyd⟩];unfold kV;refine br Tryz.func26 Tryz.ntmps26 Tryz.results26 0 62122406972767 ?_;simp only[zI,simprocAttr,au re,iD,bD,bV,o,hm,n0,n1,n2,hA,VW,alc,Nat.mul_one,ak7,ak4];all_goals rfl
   |false =>
    have fB:List.take m (A.map bV)++[.d (.sc (.bool true))]++List.drop (m+1) (A.map bV)=(A.set m true).map bV:=by rw[ams,List.set_eq_take_append_cons_drop,be (by simpa [hA]using aaM)];simp [bV,bD]
    rw[ap (λh=>h.2.elim aq (by rw[hyd];simp)),be o,show (false||decide (re.op=7\/re.op=8))=false by rw[ce ae];rfl];obtain⟨A2,xl⟩:∃A2,A2=A.set m true:=⟨_,rfl⟩
    obtain⟨Bx,yc⟩:∃l,l=false:=⟨_,rfl⟩
    have pI:A2.length=10:=by rw[xl];simp [hA]
    have x7:∀k∈re.kids,k.eC A2 Bx=false->(re.kids.all λk=>k.eC (A.set m true) false)=false:=λk hk h=>by subst xl;subst yc;rw[amz];exact⟨k,hk,by simp [h]⟩
    have D8:(∀k∈re.kids,k.eC A2 Bx=true)->(re.kids.all λk=>k.eC (A.set m true) false)=true:=λh=>by subst xl;subst yc;rw[als];exact h
    rw[<- xl]at fB;unfold kV;refine br Tryz.func26 Tryz.ntmps26 Tryz.results26 0 62122406972767 ?_;simp only[zI,simprocAttr,au re,iD,bD,bV,o,hm,n0,n1,n2,hA,VW,alc,Nat.mul_one,ak7,ak4,fB];refine⟨ae,?_⟩;exact Zab
 case inr.inr.inr.inr.inr.inl|inr.inr.inr.inr.inr.inr.inl =>
  rw[bm,bm,bm,bm,show (look||decide (re.op=7\/re.op=8))=true by rw[bi ae,Bool.or_true]];obtain⟨A2,xl⟩:∃A2,A2=A:=⟨_,rfl⟩
  obtain⟨Bx,yc⟩:∃l,l=true:=⟨_,rfl⟩
  have pI:A2.length=10:=by rw[xl];simp [hA]
  have x7:∀k∈re.kids,k.eC A2 Bx=false->(re.kids.all λk=>k.eC A true)=false:=λk hk h=>by subst xl;subst yc;rw[amz];exact⟨k,hk,by simp [h]⟩
  have D8:(∀k∈re.kids,k.eC A2 Bx=true)->(re.kids.all λk=>k.eC A true)=true:=λh=>by subst xl;subst yc;rw[als];exact h
  unfold kV;refine br Tryz.func26 Tryz.ntmps26 Tryz.results26 0 62122406972767 ?_;simp only[zI,simprocAttr,au re,iD,bD,bV,o];exact Zab
 all_goals
  rw[bm,bm,bm,bm,show (look||decide (re.op=7\/re.op=8))=look by rw[ce ae,amo]];obtain⟨A2,xl⟩:∃A2,A2=A:=⟨_,rfl⟩
  obtain⟨Bx,yc⟩:∃l,l=look:=⟨_,rfl⟩
  have pI:A2.length=10:=by rw[xl];simp [hA]
  have x7:∀k∈re.kids,k.eC A2 Bx=false->(re.kids.all λk=>k.eC A look)=false:=λk hk h=>by subst xl;subst yc;rw[amz];exact⟨k,hk,by simp [h]⟩
  have D8:(∀k∈re.kids,k.eC A2 Bx=true)->(re.kids.all λk=>k.eC A look)=true:=λh=>by subst xl;subst yc;rw[als];exact h
  unfold kV;refine br Tryz.func26 Tryz.ntmps26 Tryz.results26 0 62122406972767 ?_;simp only[zI,simprocAttr,au re,iD,bD,bV,o];refine ay (λn e s=>∃i:Nat,n=re.kids.length-i/\i<=re.kids.length/\e 2=bV Bx/\e 3=.rf 0 0 0 0/\e 4=.rf 1 0 0 0/\e 43=.d (.sl (re.kids.map Re.cells))/\e 44=i64 re.kids.length/\e 45=i64 i/\(∀x∈re.kids.take i,x.eC A2 Bx=true)/\s=[aL re,eO A2])
   ⟨_,_,_,bO.refl,0,rfl,ae,by first|rfl|(subst yc;rfl),rfl,rfl,rfl,rfl,rfl,aq,by first|(simp [aL,eO,iD,bD,Re.ah re,o,pI];done)|(subst xl;simp [aL,eO,bV,bD,iD,Re.ah re,o];done)|(rw[<- xl];simp [aL,eO,bV,bD,iD,Re.ah re,o];done)|(simp [aL,eO,bV,bD,iD,Re.ah re,o,xl];done)|(simp [aL,eO,bV,bD,iD,Re.ah re,xl];done)⟩ ?_
  rintro n e s ⟨i,rfl,hi,h2,h3,h4,uf,Bc,DB,bR,rfl⟩;rcases alw i re.kids.length with aE|gE
  ·obtain⟨k,hk⟩:∃k,re.kids[i]?=some k:=cb aE;have hm:=List.mem_of_getElem? hk;have aH:(i:Int)<(re.kids.length:Int):=ae;have hi0:(0:Int)<=(i:Int):=ae;have dw:=ih k hm (jG k hm) A2 Bx pI;have OC:List.take 10 (A2.map bV)=A2.map bV:=aln (by rw[ak4];omega);unfold kV at dw;simp only[bV,bD]at dw;simp only[zX,simprocAttr,aL,eO,Re.ah re,ak8,ak9,iD,bD,bV,h2,h3,h4,uf,Bc,DB,i64,aH,hi0,aE,hk,pI,OC,ak4,List.getElem?_map,ala,ak7];refine bB dw (by rw[au];simp [ak,ak.go,i64,zy]) rfl ?_;cases ej:k.eC A2 Bx with
   |false =>
    rw[x7 k hm ej];simp only[zX,simprocAttr,aL,eO,Re.ah re,ak8,ak9,iD,bD,bV,h2,h3,h4,uf,Bc,DB,i64,ali];all_goals rfl
   |true =>
    simp only[zX,simprocAttr,aL,eO,Re.ah re,ak8,ak9,iD,bD,bV,h2,h3,h4,uf,Bc,DB,i64,alh];refine⟨re.kids.length-(i+1),_,_,ae,bO.cut (s':=[aL re,eO A2]) 2 ae (by simp [aL,eO,pI,Re.ah re,iD,bD]) (by simp [aL,eO,bV,aY,Re.ah re,ak]) [2,3,4,43,44,45] (by simp [ca,aZ,ak,h2,h3,h4,uf,Bc,DB,i64,bV]),i+1,rfl,aE,?_,?_,?_,?_,?_,?_,?_,by simp [aL,eO,pI,Re.ah re,iD,bD]⟩ <;> (try simp only[zU,Ft,qa,qe,Fp,reduceIte])
    ·exact h2
    ·exact h3
    ·exact h4
    ·exact uf
    ·exact Bc
    ·rw[bK _ ae];rfl
    ·intro x hx;rcases cK hk hx with h|rfl
     ·exact bR x h
     ·exact ej
  ·have eg:i=re.kids.length:=by omega
   subst eg;rw[alr]at bR;rw[D8 bR];simp only[zX,simprocAttr,aL,eO,Re.ah re,ak8,ak9,iD,bD,bV,h2,h3,h4,uf,Bc,DB,i64,alZ];all_goals rfl
end Go.Proofs.YtjjfioalgbecmaaGreat
