/- A part of the proof (O48 O49 O50). -/
import Derived.Test.YtfmdmlfhigocaaaOR23
import Derived.Test.YtfmdmlfhigocaaaOR24
import Derived.Test.YtfmdmlfhigocaaaOR32
import Derived.Test.YtfmdmlfhigocaaaOR39
set_option linter.unusedSimpArgs false
set_option linter.unusedVariables false
open Nat renaming reduceShiftRight → cy, reduceMod → cJ, reduceEqDiff → dV, reduceBEq → gV
open Int renaming reduceNatCast' → kd
set_option maxRecDepth 100000
set_option maxHeartbeats 80000000
namespace Go.Proofs.Ytfmdmlfhigocaaa
open Go.VL
mutual
def Re.gz:Re->List Re
 |.mk op set kids mn mx mode n neg=>(if op=7\/op=8 then [Re.mk op set kids mn mx mode n neg] else [])++Re.cr kids
def Re.cr:List Re->List Re
 |[]=>[]
 |k::l=>k.gz++Re.cr l
end
theorem Re.z7 (re:Re):re.gz=(if re.op=7\/re.op=8 then [re] else [])++Re.cr re.kids:=by
 cases re;rw[Re.gz];rfl
theorem qy:∀(l:List Re) (k:Re),Re.cr (l++[k])=Re.cr l++k.gz
 |[],k=>by simp [Re.cr]
 |x::l,k=>by rw[aiX,Re.cr,qy l k,Re.cr,ajq]
theorem A7 (re:Re):re.gz.length=re.looks:=by
 refine Re.ind (Q:=λre=>re.gz.length=re.looks) (λre ih=>?_) re;have hL:∀l:List Re,(∀x∈l,x∈re.kids)->(Re.cr l).length=Re.aV l:=by
  intro l;induction l with
  |nil=>intro _;rfl
  |cons x l D0 =>
   intro hm;rw[Re.cr,Re.aV,ai6,ih x (hm x aj),D0 λy hy=>hm y (by simp [hy])]
 rw[Re.z7,Re.jg,ai6,hL re.kids λ_ h=>h];split <;> rfl
theorem xW (l:List Re):(Re.cr l).length=Re.aV l:=by
 induction l with
 |nil=>rfl
 |cons x l ih=>rw[Re.cr,Re.aV,ai6,A7,ih]
theorem tU (l:List Re) (i:Nat):Re.aV (l.take i)<=Re.aV l:=by have:=nf (l.take i) (l.drop i);rw[aku]at this;omega
def FJ (g:Nat) (l:List Re):VL.Obj:=⟨g,true,8,(l.map Re.cells).map λc=>c.map V.d⟩
theorem NW (l:List Re):∀c∈(l.map Re.cells).map (λc=>c.map V.d),c.length=8:=by intro c hc;obtain⟨d,hd,rfl⟩:=List.mem_map.1 hc;obtain⟨x,_,rfl⟩:=List.mem_map.1 hd;rw[Re.ah x];rfl
theorem RB (re:Re) (hs:re.size<=1000000):aM Try.prog 40 [kj re] (.d (.sl (re.gz.map Re.cells))):=by
 revert hs;refine Re.ind (Q:=λre=>re.size<=1000000->aM Try.prog 40 [kj re] (.d (.sl (re.gz.map Re.cells)))) (λre ih hs=>?_) re;have MU:=yA re;have Ip:=A7 re;have uu:=Re.mP re.kids;have uw:=Re.size_eq re;have aan:=Re.jg re;rw[Re.z7];obtain⟨pre,Mm⟩:∃pre:List Re,pre=if re.op=7\/re.op=8 then [re] else []:=⟨_,rfl⟩
 rw[<- Mm];have ki:pre.length+Re.aV re.kids<=1000000:=by
  rw[Mm];by_cases hc:re.op=7\/re.op=8
  ·rw[be hc]at aan ⊢;simp;omega
  ·rw[ap hc]at aan ⊢;simp;omega
 have oq:re.op=7\/re.op=8\/¬(re.op=7\/re.op=8):=ae;have S4:re.op=7\/re.op=8->pre=[re]:=λh=>by rw[Mm,be h]
 have hpn:¬(re.op=7\/re.op=8)->pre=[]:=λh=>by rw[Mm,ap h]
 clear Mm;rcases oq with o7|o8|ho
 ·have hp:=S4 (.inl o7);have o7':=eq_true o7;refine bk Try.func40 Try.ntmps40 Try.results40 0 31 ?_;simp only[zI,simprocAttr,aq re,iD,bD,o7',decide_true];refine⟨λe he=>by rw[List.mem_singleton.1 he];rfl,?_⟩;refine And.intro (λe he=>absurd he ajP) ?_;refine ay (λn e s=>∃i g:Nat,n=re.kids.length-i/\i<=re.kids.length/\e 1=.rf 0 0 0 0/\e 3=.so 1 g 0 (pre++Re.cr (re.kids.take i)).length/\e 4=i64 i/\s=[aI re,FJ g (pre++Re.cr (re.kids.take i))]) ⟨_,_,_,bJ.refl,0,0,rfl,ae,rfl,by rw[hp];rfl,rfl,by rw[hp];simp [aI,FJ,Re.cr,Re.ah re,iD,bD]⟩ ?_;clear S4 hpn;rintro n e s ⟨i,g,rfl,hi,h1,h3,h4,rfl⟩;rcases ajr i re.kids.length with aB|iA
  ·obtain⟨k,hk⟩:∃k,re.kids[i]?=some k:=bZ aB;have hm:=ai4 hk;have JM:=Re.bN hm;have aH:(i:Int)<(re.kids.length:Int):=ae;have dt:=ih k hm ae;have Ee:pre++Re.cr (re.kids.take (i+1))=(pre++Re.cr (re.kids.take i))++k.gz:=by rw[bj hk,qy,ajq]
   have MW:(pre++Re.cr (re.kids.take i)).length+k.gz.length<=1000000:=by have h1:=tU re.kids (i+1);have h2:=congrArg List.length Ee;simp only[ai6,xW]at h1 h2 ⊢;omega
   generalize hO:pre++Re.cr (re.kids.take i)=O at *;generalize k.gz=kl at *;simp only[zI,simprocAttr,aI,FJ,Re.ah re,aiZ,ai2,iD,bD,h1,h3,h4,aH,hk];refine bp dt (by simp [ak,ak.go,aq]) eX ?_;simp only[zI,simprocAttr,aI,FJ,Re.ah re,aiZ,ai2,iD,bD,h1,h3,h4,aiW];refine⟨NW _,⟨aj,ae⟩,re.kids.length-(i+1),_,_,ae,bJ.refl,i+1,g+1,rfl,ae,?_,?_,?_,?_⟩ <;> (try simp only[zU,gV,cy,cJ,dV,reduceIte])
   ·exact h1
   ·rw[Ee];simp
   ·rw[bF _ ae];rfl
   ·rw[Ee,ajb aj];simp [aI,FJ,Re.ah re,iD,bD]
  ·have dY:i=re.kids.length:=by omega
   subst dY;have aH:¬(re.kids.length:Int)<re.kids.length:=ae;rw[ajt]at h3 ⊢;simp only[zI,simprocAttr,aI,Re.ah re,aiZ,ai2,iD,bD,h1,h3,h4,aH];rw[be ⟨rfl,by simp [FJ]⟩,show (FJ g (pre++Re.cr re.kids)).aw=((pre++Re.cr re.kids).map Re.cells).map (λc=>c.map V.d) from rfl,g9 7 0 _ _ _ aj];rfl
 ·have hp:=S4 (.inr o8);have o8':=eq_true o8;have o7':=eq_false (show ¬re.op=7 by omega);refine bk Try.func40 Try.ntmps40 Try.results40 0 31 ?_;simp only[zI,simprocAttr,aq re,iD,bD,o7',o8',decide_true,decide_false];refine⟨λe he=>by rw[List.mem_singleton.1 he];rfl,?_⟩;refine And.intro (λe he=>absurd he ajP) ?_;refine ay (λn e s=>∃i g:Nat,n=re.kids.length-i/\i<=re.kids.length/\e 1=.rf 0 0 0 0/\e 3=.so 1 g 0 (pre++Re.cr (re.kids.take i)).length/\e 4=i64 i/\s=[aI re,FJ g (pre++Re.cr (re.kids.take i))]) ⟨_,_,_,bJ.refl,0,0,rfl,ae,rfl,by rw[hp];rfl,rfl,by rw[hp];simp [aI,FJ,Re.cr,Re.ah re,iD,bD]⟩ ?_;clear S4 hpn;rintro n e s ⟨i,g,rfl,hi,h1,h3,h4,rfl⟩;rcases ajr i re.kids.length with aB|iA
  ·obtain⟨k,hk⟩:∃k,re.kids[i]?=some k:=bZ aB;have hm:=ai4 hk;have JM:=Re.bN hm;have aH:(i:Int)<(re.kids.length:Int):=ae;have dt:=ih k hm ae;have Ee:pre++Re.cr (re.kids.take (i+1))=(pre++Re.cr (re.kids.take i))++k.gz:=by rw[bj hk,qy,ajq]
   have MW:(pre++Re.cr (re.kids.take i)).length+k.gz.length<=1000000:=by have h1:=tU re.kids (i+1);have h2:=congrArg List.length Ee;simp only[ai6,xW]at h1 h2 ⊢;omega
   generalize hO:pre++Re.cr (re.kids.take i)=O at *;generalize k.gz=kl at *;simp only[zI,simprocAttr,aI,FJ,Re.ah re,aiZ,ai2,iD,bD,h1,h3,h4,aH,hk];refine bp dt (by simp [ak,ak.go,aq]) eX ?_;simp only[zI,simprocAttr,aI,FJ,Re.ah re,aiZ,ai2,iD,bD,h1,h3,h4,aiW];refine⟨NW _,⟨aj,ae⟩,re.kids.length-(i+1),_,_,ae,bJ.refl,i+1,g+1,rfl,ae,?_,?_,?_,?_⟩ <;> (try simp only[zU,gV,cy,cJ,dV,reduceIte])
   ·exact h1
   ·rw[Ee];simp
   ·rw[bF _ ae];rfl
   ·rw[Ee,ajb aj];simp [aI,FJ,Re.ah re,iD,bD]
  ·have dY:i=re.kids.length:=by omega
   subst dY;have aH:¬(re.kids.length:Int)<re.kids.length:=ae;rw[ajt]at h3 ⊢;simp only[zI,simprocAttr,aI,Re.ah re,aiZ,ai2,iD,bD,h1,h3,h4,aH];rw[be ⟨rfl,by simp [FJ]⟩,show (FJ g (pre++Re.cr re.kids)).aw=((pre++Re.cr re.kids).map Re.cells).map (λc=>c.map V.d) from rfl,g9 7 0 _ _ _ aj];rfl
 ·have hp:=hpn ho;have o7':=eq_false (show ¬re.op=7 by omega);have o8':=eq_false (show ¬re.op=8 by omega);refine bk Try.func40 Try.ntmps40 Try.results40 0 31 ?_;simp only[zI,simprocAttr,aq re,iD,bD,o7',o8',decide_false];refine ay (λn e s=>∃i g:Nat,n=re.kids.length-i/\i<=re.kids.length/\e 1=.rf 0 0 0 0/\e 3=.so 1 g 0 (pre++Re.cr (re.kids.take i)).length/\e 4=i64 i/\s=[aI re,FJ g (pre++Re.cr (re.kids.take i))]) ⟨_,_,_,.MX (fQ 3 8 rfl),0,0,rfl,ae,rfl,by rw[hp];rfl,rfl,by rw[hp];simp [aI,FJ,Re.cr,Re.ah re,iD,bD]⟩ ?_;clear S4 hpn;rintro n e s ⟨i,g,rfl,hi,h1,h3,h4,rfl⟩;rcases ajr i re.kids.length with aB|iA
  ·obtain⟨k,hk⟩:∃k,re.kids[i]?=some k:=bZ aB;have hm:=ai4 hk;have JM:=Re.bN hm;have aH:(i:Int)<(re.kids.length:Int):=ae;have dt:=ih k hm ae;have Ee:pre++Re.cr (re.kids.take (i+1))=(pre++Re.cr (re.kids.take i))++k.gz:=by rw[bj hk,qy,ajq]
   have MW:(pre++Re.cr (re.kids.take i)).length+k.gz.length<=1000000:=by have h1:=tU re.kids (i+1);have h2:=congrArg List.length Ee;simp only[ai6,xW]at h1 h2 ⊢;omega
   generalize hO:pre++Re.cr (re.kids.take i)=O at *;generalize k.gz=kl at *;simp only[zI,simprocAttr,aI,FJ,Re.ah re,aiZ,ai2,iD,bD,h1,h3,h4,aH,hk];refine bp dt (by simp [ak,ak.go,aq]) eX ?_;simp only[zI,simprocAttr,aI,FJ,Re.ah re,aiZ,ai2,iD,bD,h1,h3,h4,aiW];refine⟨NW _,⟨aj,ae⟩,re.kids.length-(i+1),_,_,ae,bJ.refl,i+1,g+1,rfl,ae,?_,?_,?_,?_⟩ <;> (try simp only[zU,gV,cy,cJ,dV,reduceIte])
   ·exact h1
   ·rw[Ee];simp
   ·rw[bF _ ae];rfl
   ·rw[Ee,ajb aj];simp [aI,FJ,Re.ah re,iD,bD]
  ·have dY:i=re.kids.length:=by omega
   subst dY;have aH:¬(re.kids.length:Int)<re.kids.length:=ae;rw[ajt]at h3 ⊢;simp only[zI,simprocAttr,aI,Re.ah re,aiZ,ai2,iD,bD,h1,h3,h4,aH];rw[be ⟨rfl,by simp [FJ]⟩,show (FJ g (pre++Re.cr re.kids)).aw=((pre++Re.cr re.kids).map Re.cells).map (λc=>c.map V.d) from rfl,g9 7 0 _ _ _ aj];rfl
def H7 (re:Re):Bool:=l5 re&&decide ((re.op=0\/re.op=6\/re.op=9\/re.op=10)->re.kids=[])
theorem zd {re:Re}:H7 re=true ↔ l5 re=true/\((re.op=0\/re.op=6\/re.op=9\/re.op=10)->re.kids=[]):=by unfold H7;rw[aji,decide_eq_true_eq]
def tp:List Re->Int
 |[]=>0
 |x::l=>dv x+tp l
theorem HK:∀(l:List Re) (x:Re),tp (l++[x])=tp l+dv x
 |[],x=>by simp [tp]
 |y::l,x=>by rw[aiX,tp,HK l x,tp];omega
theorem yx:∀l:List Re,0<=tp l/\tp l<=8193*l.length
 |[]=>by simp [tp]
 |x::l=>by
  have h1:=yx l;have h2:0<=dv x/\dv x<=8193:=by unfold dv;omega
  rw[tp,ai8];omega
theorem Lu:∀(l:List Re) (c:Int),0<=c->min (tp l+c) 8193=min ((Re.cu l:Int)+c) 8193
 |[],c,h=>by simp [tp,Re.cu]
 |x::l,c,h=>by have h1:=Lu l c h;have h2:=yx l;rw[tp,Re.cu];unfold dv;omega
def qR (re:Re) (i:Nat):Int:=if re.op=3 then (if i=0 then 0 else 2*((i:Int)-1)) else if re.op=5 then 2*(i:Int) else 0
theorem DE (re:Re):re.every H7=true->aM Try.prog 74 [kj re] (i64 (dv re)):=by
 induction re using Re.ind with
 |h re ih =>
 intro hs;obtain⟨ef,fU⟩:=(Re.av re).1 hs;obtain⟨nR,kx⟩:=zd.1 ef;obtain⟨q1,q2,q3,q4,q5,q6,q7,q8,q9,ji,_,_,Ao,q14,_⟩:=iO.1 nR;have oq:re.op=1\/re.op=11\/re.op=7\/re.op=8\/re.op=4\/¬(re.op=1\/re.op=11\/re.op=7\/re.op=8\/re.op=4):=ae;have tD:(re.op=1\/re.op=11\/re.op=7\/re.op=8)->dv re=1:=λh=>by rw[dv,Re.gj,nK,be h];rfl
 rcases oq with o|o|o|o|o|o
 ·rw[tD ae];refine bk Try.func74 Try.ntmps74 Try.results74 0 447 ?_;simp only[zI,simprocAttr,-kd,aq re,iD,bD,o]
 ·rw[tD ae];refine bk Try.func74 Try.ntmps74 Try.results74 0 447 ?_;simp only[zI,simprocAttr,-kd,aq re,iD,bD,o]
 ·rw[tD ae];refine bk Try.func74 Try.ntmps74 Try.results74 0 447 ?_;simp only[zI,simprocAttr,-kd,aq re,iD,bD,o]
 ·rw[tD ae];refine bk Try.func74 Try.ntmps74 Try.results74 0 447 ?_;simp only[zI,simprocAttr,-kd,aq re,iD,bD,o]
 ·obtain⟨x,hx⟩:∃x,re.kids=[x]:=List.length_eq_one_iff.1 (q1 ae);have hz:=OT (m:=re.mn) (x:=re.mx) (z:=x.dc) ae q4 (q8 o);rw[<- Px o hx q4 (q8 o)]at hz;have dt:=ih x (by rw[hx];simp) (fU x (by rw[hx];simp));have vV:re.kids[0]?=some x:=by rw[hx];rfl
  have dZ:(0:Int)<(re.kids.length:Int):=by rw[hx];simp
  unfold dv at dt ⊢;rw[<- hz];have X7:0<=min (x.dc:Int) 8193:=ae;have hy1:min (x.dc:Int) 8193<=8193:=ae;generalize min (x.dc:Int) 8193=y at *;simp only[i64]at dt;have e1:0<=re.mn*y/\re.mn*y<=32*y:=⟨akj q4 X7,ajG q5 X7⟩
  have w1:IntKind.i64.wrap (re.mn*y)=re.mn*y:=bF _ ae;by_cases hm:re.mx=-1
  ·have w2:IntKind.i64.wrap (re.mn*y+y)=re.mn*y+y:=bF _ ae;have w3:IntKind.i64.wrap (re.mn*y+y+2)=re.mn*y+(y+2):=by rw[bF _ ae,Int.add_assoc]
   rw[be hm];have mD:decide (re.mx=-1)=true:=bi hm;refine bk Try.func74 Try.ntmps74 Try.results74 0 447 ?_;simp only[zI,simprocAttr,-kd,aq re,iD,bD,o,aiW,dZ,vV];refine bO dt ?_;simp only[zI,simprocAttr,-kd,aq re,iD,bD,o,mD,w1,w2,w3]
  ·have e2:0<=(re.mx-re.mn)*(y+1)/\(re.mx-re.mn)*(y+1)<=32*(y+1):=by obtain⟨h1,h2⟩:=(q8 o).resolve_left hm;exact⟨akj ae ae,ajG ae ae⟩
   have w2:IntKind.i64.wrap (y+1)=y+1:=bF _ ae;have w3:IntKind.i64.wrap (re.mx-re.mn)=re.mx-re.mn:=bF _ ae;have w4:IntKind.i64.wrap ((re.mx-re.mn)*(y+1))=(re.mx-re.mn)*(y+1):=bF _ ae;have w5:IntKind.i64.wrap (re.mn*y+(re.mx-re.mn)*(y+1))=re.mn*y+(re.mx-re.mn)*(y+1):=bF _ ae;rw[ap hm];have mD:decide (re.mx=-1)=false:=ce hm;refine bk Try.func74 Try.ntmps74 Try.results74 0 447 ?_;simp only[zI,simprocAttr,-kd,aq re,iD,bD,o,aiW,dZ,vV];refine bO dt ?_;simp only[zI,simprocAttr,-kd,aq re,iD,bD,o,mD,w1,w2,w3,w4,w5]
 ·have o1:¬re.op=1:=by omega
  have oh:¬re.op=11:=ae;have o7:¬re.op=7:=ae;have o8:¬re.op=8:=ae;have o4:¬re.op=4:=ae;have hz:dv re=min (tp re.kids+qR re re.kids.length) 8193:=by
   by_cases jf:re.op=0\/re.op=6\/re.op=9\/re.op=10
   ·rw[dv,Re.gj,nK,bd,bd,bd,bd,bd,kx jf,qR,bd,bd];rfl
   ·have Y7:0<=qR re re.kids.length:=by unfold qR;split <;> (try split) <;> (try split) <;> omega
    rw[Lu _ _ Y7,dv,Re.gj,nK,bd,qR];by_cases o2:re.op=2
    ·rw[be o2,bd,bd,Int.add_zero]
    ·rw[ap o2];by_cases o3:re.op=3
     ·have:=q2 o3;rw[be o3,be o3,bd];omega
     ·have o5:re.op=5:=by omega
      have:=q1 (.inr (.inl o5));rw[ap o3,ap o3,be o5,be o5,this];omega
  rw[hz];refine bk Try.func74 Try.ntmps74 Try.results74 0 447 ?_;simp only[zI,simprocAttr,-kd,aq re,iD,bD,o1,oh,o7,o8,o4];refine ay (λn e s=>∃i:Nat,n=re.kids.length-i/\i<=re.kids.length/\e 1=.rf 0 0 0 0/\e 3=i64 (tp (re.kids.take i)+qR re i)/\e 5=i64 i/\s=[aI re]) ⟨_,_,_,bJ.refl,0,rfl,ae,rfl,by simp [tp,qR];rfl,rfl,by simp [aI,Re.ah re,iD,bD]⟩ ?_;rintro n e s ⟨i,rfl,hi,h1,h3,h5,rfl⟩;rcases ajr i re.kids.length with aB|iA
  ·obtain⟨k,hk⟩:∃k,re.kids[i]?=some k:=bZ aB;have hm:=ai4 hk;have aH:(i:Int)<(re.kids.length:Int):=ae;have GB:tp (re.kids.take (i+1))=tp (re.kids.take i)+dv k:=by rw[bj hk,HK]
   have dt:=ih k hm (fU k hm);have hyr:0<=dv k/\dv k<=8193:=by unfold dv;omega
   have hsr:=yx (re.kids.take i);have yf:(re.kids.take i).length=i:=cG;have UL:IntKind.i64.wrap ((i:Int)+1)=((i+1:Nat):Int):=by rw[bF _ ae];rfl
   rw[yf]at hsr;generalize dv k=y at *;generalize tp (re.kids.take i)=S at *;simp only[i64]at dt;by_cases o3:re.op=3
   ·have o5:¬re.op=5:=by omega
    have r1:qR re (i+1)=2*(i:Int):=by unfold qR;rw[be o3,bd];omega
    cases i with
    |zero =>
     have r0:qR re 0=0:=by unfold qR;rw[be o3,be rfl]
     have w1:IntKind.i64.wrap (S+0+y)=S+y:=by rw[bF _ ae];omega
     rw[r0]at h3;have g0:¬(0:Int)<((0:Nat):Int):=ae;simp only[zI,simprocAttr,-kd,aI,Re.ah re,aiZ,ai2,iD,bD,h1,h3,h5,aH,hk,w1,gt_iff_lt];refine bO dt ?_;simp only[zI,simprocAttr,-kd,aI,Re.ah re,aiZ,ai2,iD,bD,h1,h3,h5,aH,hk,w1,gt_iff_lt,o3,g0,UL];refine⟨re.kids.length-(0+1),_,_,ae,bJ.refl,0+1,rfl,ae,?_,?_,?_,by simp [aI,Re.ah re,iD,bD,o3]⟩ <;> (try simp only[zU,gV,cy,cJ,dV,reduceIte])
     ·exact h1
     ·rw[GB,r1];simp
    |succ j =>
     have r0:qR re (j+1)=2*(j:Int):=by unfold qR;rw[be o3,bd];omega
     have w1:IntKind.i64.wrap (S+2*(j:Int)+y)=S+2*(j:Int)+y:=bF _ ae;have w2:IntKind.i64.wrap (S+2*(j:Int)+y+2)=S+y+2*((j+1:Nat):Int):=by rw[bF _ ae];omega
     rw[r0]at h3;have g0:(0:Int)<((j+1:Nat):Int):=ae;simp only[zI,simprocAttr,-kd,aI,Re.ah re,aiZ,ai2,iD,bD,h1,h3,h5,aH,hk,w1,gt_iff_lt];refine bO dt ?_;simp only[zI,simprocAttr,-kd,aI,Re.ah re,aiZ,ai2,iD,bD,h1,h3,h5,aH,hk,w1,w2,gt_iff_lt,o3,g0,UL];refine⟨re.kids.length-(j+1+1),_,_,ae,bJ.refl,j+1+1,rfl,ae,?_,?_,?_,by simp [aI,Re.ah re,iD,bD,o3]⟩ <;> (try simp only[zU,gV,cy,cJ,dV,reduceIte])
     ·exact h1
     ·rw[GB,r1]
   ·by_cases o5:re.op=5
    ·have r0:qR re i=2*(i:Int):=by unfold qR;rw[ap o3,be o5]
     have r1:qR re (i+1)=2*(i:Int)+2:=by unfold qR;rw[ap o3,be o5];omega
     have w1:IntKind.i64.wrap (S+2*(i:Int)+y)=S+2*(i:Int)+y:=bF _ ae;have w2:IntKind.i64.wrap (S+2*(i:Int)+y+2)=S+y+(2*(i:Int)+2):=by rw[bF _ ae];omega
     rw[r0]at h3;simp only[zI,simprocAttr,-kd,aI,Re.ah re,aiZ,ai2,iD,bD,h1,h3,h5,aH,hk,w1,gt_iff_lt];refine bO dt ?_;simp only[zI,simprocAttr,-kd,aI,Re.ah re,aiZ,ai2,iD,bD,h1,h3,h5,aH,hk,w1,w2,gt_iff_lt,o5,UL];refine⟨re.kids.length-(i+1),_,_,ae,bJ.refl,i+1,rfl,ae,?_,?_,?_,by simp [aI,Re.ah re,iD,bD,o5]⟩ <;> (try simp only[zU,gV,cy,cJ,dV,reduceIte])
     ·exact h1
     ·rw[GB,r1]
    ·have r0:qR re i=0:=by unfold qR;rw[ap o3,ap o5]
     have r1:qR re (i+1)=0:=by unfold qR;rw[ap o3,ap o5]
     have w1:IntKind.i64.wrap (S+0+y)=S+y+0:=by rw[bF _ ae];omega
     rw[r0]at h3;simp only[zI,simprocAttr,-kd,aI,Re.ah re,aiZ,ai2,iD,bD,h1,h3,h5,aH,hk,w1,gt_iff_lt];refine bO dt ?_;simp only[zI,simprocAttr,-kd,aI,Re.ah re,aiZ,ai2,iD,bD,h1,h3,h5,aH,hk,w1,gt_iff_lt,o3,o5,UL];refine⟨re.kids.length-(i+1),_,_,ae,bJ.refl,i+1,rfl,ae,?_,?_,?_,by simp [aI,Re.ah re,iD,bD]⟩ <;> (try simp only[zU,gV,cy,cJ,dV,reduceIte])
     ·exact h1
     ·rw[GB,r1]
  ·have dY:i=re.kids.length:=by omega
   subst dY;have aH:¬(re.kids.length:Int)<re.kids.length:=ae;rw[ajt]at h3;simp only[zI,simprocAttr,-kd,aI,Re.ah re,aiZ,ai2,iD,bD,h1,h3,h5,aH]
mutual
def Re.nest:Re->List Int->Bool
 |.mk op _ kids _ _ _ n _,a=>if op=5/\n∈a then true else Re.L9 kids (if op=5 then a++[n] else a)
def Re.L9:List Re->List Int->Bool
 |[],_=>false
 |k::l,a=>k.nest a||Re.L9 l a
end
theorem Re.HR:∀(l:List Re) (a:List Int),Re.L9 l a=l.any λk=>k.nest a
 |[],_=>by simp [Re.L9]
 |k::l,a=>by simp [Re.L9,Re.HR l a]
theorem Re.zP (re:Re) (a:List Int):re.nest a=if re.op=5/\re.n∈a then true else re.kids.any λk=>k.nest (if re.op=5 then a++[re.n] else a):=by
 cases re;simp only[Re.nest,Re.HR,Re.op,Re.kids,Re.n];rfl
theorem Vs (re:Re):∀a:List Int,re.every (λr=>decide (fx r.n))=true->re.size<=1000000->a.length+re.size<=2000000->aM Try.prog 73 [kj re,.d (an a)] (bV (re.nest a)):=by
 induction re using Re.ind with
 |h re ih =>
 intro a hs hz ha;obtain⟨ef,fU⟩:=(Re.av re).1 hs;have ji:=of_decide_eq_true ef;have fY:=Re.size_eq re;have dZ:=Re.mP re.kids;have kB:∀a':List Int,a'.length<=a.length+1->∀k∈re.kids,aM Try.prog 73 [kj k,.d (an a')] (bV (k.nest a')):=λa' Q5 k hk =>
  ih k hk a' (fU k hk) (by have:=Re.bN hk;omega) (by have:=Re.bN hk;omega)
 have tO:∀e∈(a.map λx=>[iD x]).map (λx=>x.map V.d),e.length=1:=λe he=>by obtain⟨x,hx,rfl⟩:=List.mem_map.1 he;obtain⟨p,_,rfl⟩:=List.mem_map.1 hx;rfl
 simp only[iD]at tO;rw[Re.zP];by_cases c2:re.op=5
 ·have hh:=TM a re.n ae;have c2':=eq_true c2;by_cases c3:re.n∈a
  ·rw[be ⟨c2,c3⟩];rw[bi c3]at hh;refine bk Try.func73 Try.ntmps73 Try.results73 0 247 ?_;simp only[zI,simprocAttr,aq re,iD,bD,c2,an,aiW];refine⟨tO,⟨ae,λe he=>absurd he ajP⟩,?_⟩;refine bO hh ?_;simp only[zI,simprocAttr,aq re,iD,bD,bV,c2];all_goals rfl
  ·rw[ap (λh=>c3 h.2),be c2];rw[ce c3]at hh;have hL:=kB (a++[re.n]) aj;refine bk Try.func73 Try.ntmps73 Try.results73 0 247 ?_;simp only[zI,simprocAttr,aq re,iD,bD,c2,an,aiW];refine⟨tO,⟨ae,λe he=>absurd he ajP⟩,?_⟩;refine bO hh ?_;simp only[zI,simprocAttr,aq re,iD,bD,bV,c2];refine And.intro (λe he=>by rw[List.mem_singleton.1 he];rfl) (And.intro ⟨ae,ae⟩ ?_);generalize haa:a++[re.n]=aa at *;refine ay (λn e s=>∃i:Nat,n=re.kids.length-i/\i<=re.kids.length/\e 2=.rf 0 0 0 0/\e 5=.d (an aa)/\e 6=i64 i/\(∀x∈re.kids.take i,x.nest aa=false)/\s=[aI re])
    ⟨_,_,_,Ov (s':=[aI re]) 5 (aa.map λx=>[iD x]) 1 [2,5,6] rfl rfl ?_ ?_ ae (ajc _) ?_ (by simp [aI,Re.ah re,bc,ak,iD,bD]) rfl,0,rfl,ae,?_,?_,?_,aj,rfl⟩ ?_
   ·rw[ajQ,<- haa,ajb aj,ajb aj];simp [iD]
   ·simp
   ·simp [aI,Re.ah re,iD,bD,c2]
   ·rfl
   ·rfl
   ·rfl
   clear tO;rintro n e s ⟨i,rfl,hi,h2,h5,h6,bK,rfl⟩;simp only[an]at h5;rcases ajr i re.kids.length with aB|iA
   ·obtain⟨k,hk⟩:∃k,re.kids[i]?=some k:=bZ aB;have hm:=ai4 hk;have MG:=hL k hm;simp only[an]at MG;have aH:(i:Int)<re.kids.length:=ae;simp only[zI,simprocAttr,aI,Re.ah re,aiZ,ai2,iD,bD,h2,h5,h6,aH,hk];refine bp MG (by simp [ak,ak.go,aq]) eX ?_;cases dZ:k.nest aa with
    |false =>
     simp only[zI,simprocAttr,iD,bD,bV,h2,h5,h6,dZ,ajd];refine⟨re.kids.length-(i+1),_,_,ae,bJ.refl,i+1,rfl,aB,?_,?_,?_,?_,rfl⟩ <;> (try simp only[zU,gV,cy,cJ,dV,reduceIte])
     ·exact h2
     ·exact h5
     ·rw[bF _ ae];rfl
     ·intro x hx;rcases cC hk hx with h|rfl
      ·exact bK x h
      ·exact dZ
    |true =>
     simp only[zI,simprocAttr,iD,bD,bV,h2,h5,h6,dZ,aje];have:(re.kids.any λk=>k.nest aa)=true:=by rw[List.any_eq_true];exact⟨k,hm,dZ⟩
     rw[this];all_goals rfl
   ·have dY:i=re.kids.length:=by omega
    subst dY;have aH:¬(re.kids.length:Int)<re.kids.length:=ae;rw[ajt]at bK;have:(re.kids.any λk=>k.nest aa)=false:=by rw[List.any_eq_false];intro x hx;rw[bK x hx];simp
    rw[this];simp only[zI,simprocAttr,aI,Re.ah re,aiZ,ai2,iD,bD,bV,h2,h5,h6,aH];all_goals rfl
 ·have hL:=kB a ae;rw[ap (λh=>c2 h.1),ap c2];have c2':=eq_false c2;refine bk Try.func73 Try.ntmps73 Try.results73 0 247 ?_;simp only[zI,simprocAttr,aq re,iD,bD,c2',decide_false,an,aiW];refine⟨tO,⟨ae,λe he=>absurd he ajP⟩,?_⟩;generalize haa:a=aa at *;refine ay (λn e s=>∃i:Nat,n=re.kids.length-i/\i<=re.kids.length/\e 2=.rf 0 0 0 0/\e 5=.d (an aa)/\e 6=i64 i/\(∀x∈re.kids.take i,x.nest aa=false)/\s=[aI re])
   ⟨_,_,_,Ov (s':=[aI re]) 5 (aa.map λx=>[iD x]) 1 [2,5,6] rfl rfl ?_ ?_ ae (ajc _) ?_ (by simp [aI,Re.ah re,bc,ak,iD,bD]) rfl,0,rfl,ae,?_,?_,?_,aj,rfl⟩ ?_
  ·rw[ajQ,ajb aj];simp [iD]
  ·simp
  ·simp [aI,Re.ah re,iD,bD]
  ·rfl
  ·rfl
  ·rfl
  clear tO;rintro n e s ⟨i,rfl,hi,h2,h5,h6,bK,rfl⟩;simp only[an]at h5;rcases ajr i re.kids.length with aB|iA
  ·obtain⟨k,hk⟩:∃k,re.kids[i]?=some k:=bZ aB;have hm:=ai4 hk;have MG:=hL k hm;simp only[an]at MG;have aH:(i:Int)<re.kids.length:=ae;simp only[zI,simprocAttr,aI,Re.ah re,aiZ,ai2,iD,bD,h2,h5,h6,aH,hk];refine bp MG (by simp [ak,ak.go,aq]) eX ?_;cases dZ:k.nest aa with
   |false =>
    simp only[zI,simprocAttr,iD,bD,bV,h2,h5,h6,dZ,ajd];refine⟨re.kids.length-(i+1),_,_,ae,bJ.refl,i+1,rfl,aB,?_,?_,?_,?_,rfl⟩ <;> (try simp only[zU,gV,cy,cJ,dV,reduceIte])
    ·exact h2
    ·exact h5
    ·rw[bF _ ae];rfl
    ·intro x hx;rcases cC hk hx with h|rfl
     ·exact bK x h
     ·exact dZ
   |true =>
    simp only[zI,simprocAttr,iD,bD,bV,h2,h5,h6,dZ,aje];have:(re.kids.any λk=>k.nest aa)=true:=by rw[List.any_eq_true];exact⟨k,hm,dZ⟩
    rw[this];all_goals rfl
  ·have dY:i=re.kids.length:=by omega
   subst dY;have aH:¬(re.kids.length:Int)<re.kids.length:=ae;rw[ajt]at bK;have:(re.kids.any λk=>k.nest aa)=false:=by rw[List.any_eq_false];intro x hx;rw[bK x hx];simp
   rw[this];simp only[zI,simprocAttr,aI,Re.ah re,aiZ,ai2,iD,bD,bV,h2,h5,h6,aH];all_goals rfl
end Go.Proofs.Ytfmdmlfhigocaaa
