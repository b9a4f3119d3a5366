/- A part of the proof. -/
import Derived.Test.YtjjfioalgbecmaaGreatOA26
set_option linter.unusedSimpArgs false
set_option linter.unusedVariables false
open Nat renaming reduceShiftRight → qa, reduceMod → qe, reduceEqDiff → Fp, reduceAdd → Fq, reduceBEq → Ft
open Int renaming reduceNatCast' → FF
set_option maxRecDepth 100000
set_option maxHeartbeats 80000000
namespace Go.Proofs.YtjjfioalgbecmaaGreat
open Go.VL
mutual
def Re.kj:Re->List Re
 |.mk op set kids mn mx mode n neg=>(if op=7\/op=8 then [Re.mk op set kids mn mx mode n neg] else [])++Re.cR kids
def Re.cR:List Re->List Re
 |[]=>[]
 |k::l=>k.kj++Re.cR l
end
theorem Re.Fb (re:Re):re.kj=(if re.op=7\/re.op=8 then [re] else [])++Re.cR re.kids:=by
 cases re;rw[Re.kj];rfl
theorem qC:∀(l:List Re) (k:Re),Re.cR (l++[k])=Re.cR l++k.kj
 |[],k=>by simp [Re.cR]
 |x::l,k=>by rw[ak5,Re.cR,qC l k,Re.cR,alx]
theorem Bb (re:Re):re.kj.length=re.looks:=by
 refine Re.ind (Q:=λre=>re.kj.length=re.looks) (λre ih=>?_) re;have hL:∀l:List Re,(∀x∈l,x∈re.kids)->(Re.cR l).length=Re.bd l:=by
  intro l;induction l with
  |nil=>intro _;rfl
  |cons x l Gb =>
   intro hm;rw[Re.cR,Re.bd,ald,ih x (hm x aq),Gb λy hy=>hm y (by simp [hy])]
 rw[Re.Fb,Re.jc,ald,hL re.kids λ_ h=>h];split <;> rfl
theorem x8 (l:List Re):(Re.cR l).length=Re.bd l:=by
 induction l with
 |nil=>rfl
 |cons x l ih=>rw[Re.cR,Re.bd,ald,Bb,ih]
theorem uw (l:List Re) (i:Nat):Re.bd (l.take i)<=Re.bd l:=by have:=nt (l.take i) (l.drop i);rw[amw]at this;omega
def F9 (g:Nat) (l:List Re):VL.Obj:=⟨g,true,8,(l.map Re.cells).map λc=>c.map V.d⟩
theorem Od (l:List Re):∀c∈(l.map Re.cells).map (λc=>c.map V.d),c.length=8:=by intro c hc;obtain⟨d,hd,rfl⟩:=List.mem_map.1 hc;obtain⟨x,_,rfl⟩:=List.mem_map.1 hd;rw[Re.ah x];rfl
theorem Sg (re:Re) (hs:re.size<=1000000):aS Tryz.prog 52 [lI re] (.d (.sl (re.kj.map Re.cells))):=by
 revert hs;refine Re.ind (Q:=λre=>re.size<=1000000->aS Tryz.prog 52 [lI re] (.d (.sl (re.kj.map Re.cells)))) (λre ih hs=>?_) re;have yh:=yJ re;have JN:=Bb re;have wY:=Re.mX re.kids;have Sq:=Re.size_eq re;have acu:=Re.jc re;rw[Re.Fb];obtain⟨pre,MK⟩:∃pre:List Re,pre=if re.op=7\/re.op=8 then [re] else []:=⟨_,rfl⟩
 rw[<- MK];have r9:pre.length+Re.bd re.kids<=1000000:=by
  rw[MK];by_cases hc:re.op=7\/re.op=8
  ·rw[be hc]at acu ⊢;simp;omega
  ·rw[ap hc]at acu ⊢;simp;omega
 have n9:re.op=7\/re.op=8\/¬(re.op=7\/re.op=8):=ae;have TW:re.op=7\/re.op=8->pre=[re]:=λh=>by rw[MK,be h]
 have hpn:¬(re.op=7\/re.op=8)->pre=[]:=λh=>by rw[MK,ap h]
 clear MK;rcases n9 with o7|o8|ho
 ·have hp:=TW (.inl o7);have o7':=eq_true o7;refine br Tryz.func52 Tryz.ntmps52 Tryz.results52 0 31 ?_;simp only[zI,simprocAttr,au re,iD,bD,o7',decide_true];exact ZdP
 ·have hp:=TW (.inr o8);have o8':=eq_true o8;have o7':=eq_false (show ¬re.op=7 by omega);refine br Tryz.func52 Tryz.ntmps52 Tryz.results52 0 31 ?_;simp only[zI,simprocAttr,au re,iD,bD,o7',o8',decide_true,decide_false];exact ZdP
 ·have hp:=hpn ho;have o7':=eq_false (show ¬re.op=7 by omega);have o8':=eq_false (show ¬re.op=8 by omega);refine br Tryz.func52 Tryz.ntmps52 Tryz.results52 0 31 ?_;simp only[zI,simprocAttr,au re,iD,bD,o7',o8',decide_false];refine ay (λn e s=>∃i g:Nat,n=re.kids.length-i/\i<=re.kids.length/\e 1=.rf 0 0 0 0/\e 3=.so 1 g 0 (pre++Re.cR (re.kids.take i)).length/\e 4=i64 i/\s=[aL re,F9 g (pre++Re.cR (re.kids.take i))]) ⟨_,_,_,.On (gQ 3 8 rfl),0,0,rfl,ae,rfl,by rw[hp];rfl,rfl,by rw[hp];simp [aL,F9,Re.cR,Re.ah re,iD,bD]⟩ ?_;exact Zae
def IJ (re:Re):Bool:=mF re&&decide ((re.op=0\/re.op=6\/re.op=9\/re.op=10)->re.kids=[])
theorem zk {re:Re}:IJ re=true ↔ mF re=true/\((re.op=0\/re.op=6\/re.op=9\/re.op=10)->re.kids=[]):=by unfold IJ;rw[alo,decide_eq_true_eq]
def tL:List Re->Int
 |[]=>0
 |x::l=>ed x+tL l
theorem Ii:∀(l:List Re) (x:Re),tL (l++[x])=tL l+ed x
 |[],x=>by simp [tL]
 |y::l,x=>by rw[ak5,tL,Ii l x,tL];omega
theorem yF:∀l:List Re,0<=tL l/\tL l<=8193*l.length
 |[]=>by simp [tL]
 |x::l=>by
  have h1:=yF l;have h2:0<=ed x/\ed x<=8193:=by unfold ed;omega
  rw[tL,alg];omega
theorem LX:∀(l:List Re) (c:Int),0<=c->min (tL l+c) 8193=min ((Re.cC l:Int)+c) 8193
 |[],c,h=>by simp [tL,Re.cC]
 |x::l,c,h=>by have h1:=LX l c h;have h2:=yF l;rw[tL,Re.cC];unfold ed;omega
def qT (re:Re) (i:Nat):Int:=if re.op=3 then (if i=0 then 0 else 2*((i:Int)-1)) else if re.op=5 then 2*(i:Int) else 0
theorem DA (re:Re):re.every IJ=true->aS Tryz.prog 53 [lI re] (i64 (ed re)):=by
 induction re using Re.ind with
 |h re ih =>
 intro hs;obtain⟨dL,jG⟩:=(Re.az re).1 hs;obtain⟨jW,ka⟩:=zk.1 dL;obtain⟨q1,q2,q3,q4,q5,q6,q7,q8,q9,jd,_,_,q13,q14,_⟩:=je.1 jW;have n9:re.op=1\/re.op=11\/re.op=7\/re.op=8\/re.op=4\/¬(re.op=1\/re.op=11\/re.op=7\/re.op=8\/re.op=4):=ae;have tU:(re.op=1\/re.op=11\/re.op=7\/re.op=8)->ed re=1:=λh=>by rw[ed,Re.ga,nW,be h];rfl
 rcases n9 with o|o|o|o|o|o
 ·exact ZaX
 ·exact ZaX
 ·exact ZaX
 ·exact ZaX
 ·obtain⟨x,hx⟩:∃x,re.kids=[x]:=List.length_eq_one_iff.1 (q1 ae);have hz:=Pa (m:=re.mn) (x:=re.mx) (z:=x.dp) ae q4 (q8 o);rw[<- PU o hx q4 (q8 o)]at hz;have dw:=ih x (by rw[hx];simp) (jG x (by rw[hx];simp));have xg:re.kids[0]?=some x:=by rw[hx];rfl
  have ej:(0:Int)<(re.kids.length:Int):=by rw[hx];simp
  unfold ed at dw ⊢;rw[<- hz];have ZR:0<=min (x.dp:Int) 8193:=ae;have hy1:min (x.dp:Int) 8193<=8193:=ae;generalize min (x.dp:Int) 8193=y at *;simp only[i64]at dw;have e1:0<=re.mn*y/\re.mn*y<=32*y:=⟨amn q4 ZR,alI q5 ZR⟩
  have w1:IntKind.i64.wrap (re.mn*y)=re.mn*y:=bK _ ae;by_cases hm:re.mx=-1
  ·have w2:IntKind.i64.wrap (re.mn*y+y)=re.mn*y+y:=bK _ ae;have w3:IntKind.i64.wrap (re.mn*y+y+2)=re.mn*y+(y+2):=by rw[bK _ ae,Int.add_assoc]
   rw[be hm];have lE:decide (re.mx=-1)=true:=bi hm;refine br Tryz.func53 Tryz.ntmps53 Tryz.results53 0 447 ?_;simp only[zI,simprocAttr,-FF,au re,iD,bD,o,ak4,ej,xg];refine dk dw ?_;simp only[zI,simprocAttr,-FF,au re,iD,bD,o,lE,w1,w2,w3]
  ·have e2:0<=(re.mx-re.mn)*(y+1)/\(re.mx-re.mn)*(y+1)<=32*(y+1):=by obtain⟨h1,h2⟩:=(q8 o).resolve_left hm;exact⟨amn ae ae,alI ae ae⟩
   have w2:IntKind.i64.wrap (y+1)=y+1:=bK _ ae;have w3:IntKind.i64.wrap (re.mx-re.mn)=re.mx-re.mn:=bK _ ae;have w4:IntKind.i64.wrap ((re.mx-re.mn)*(y+1))=(re.mx-re.mn)*(y+1):=bK _ ae;have w5:IntKind.i64.wrap (re.mn*y+(re.mx-re.mn)*(y+1))=re.mn*y+(re.mx-re.mn)*(y+1):=bK _ ae;rw[ap hm];have lE:decide (re.mx=-1)=false:=ce hm;refine br Tryz.func53 Tryz.ntmps53 Tryz.results53 0 447 ?_;simp only[zI,simprocAttr,-FF,au re,iD,bD,o,ak4,ej,xg];refine dk dw ?_;simp only[zI,simprocAttr,-FF,au re,iD,bD,o,lE,w1,w2,w3,w4,w5]
 ·have o1:¬re.op=1:=by omega
  have mZ:¬re.op=11:=ae;have o7:¬re.op=7:=ae;have o8:¬re.op=8:=ae;have o4:¬re.op=4:=ae;have hz:ed re=min (tL re.kids+qT re re.kids.length) 8193:=by
   by_cases iL:re.op=0\/re.op=6\/re.op=9\/re.op=10
   ·rw[ed,Re.ga,nW,bm,bm,bm,bm,bm,ka iL,qT,bm,bm];rfl
   ·have lu:0<=qT re re.kids.length:=by unfold qT;split <;> (try split) <;> (try split) <;> omega
    rw[LX _ _ lu,ed,Re.ga,nW,bm,qT];by_cases o2:re.op=2
    ·rw[be o2,bm,bm,Int.add_zero]
    ·rw[ap o2];by_cases o3:re.op=3
     ·have:=q2 o3;rw[be o3,be o3,bm];omega
     ·have o5:re.op=5:=by omega
      have:=q1 (.inr (.inl o5));rw[ap o3,ap o3,be o5,be o5,this];omega
  rw[hz];refine br Tryz.func53 Tryz.ntmps53 Tryz.results53 0 447 ?_;simp only[zI,simprocAttr,-FF,au re,iD,bD,o1,mZ,o7,o8,o4];refine ay (λn e s=>∃i:Nat,n=re.kids.length-i/\i<=re.kids.length/\e 1=.rf 0 0 0 0/\e 3=i64 (tL (re.kids.take i)+qT re i)/\e 5=i64 i/\s=[aL re]) ⟨_,_,_,bO.refl,0,rfl,ae,rfl,by simp [tL,qT];rfl,rfl,by simp [aL,Re.ah re,iD,bD]⟩ ?_;rintro n e s ⟨i,rfl,hi,h1,h3,h5,rfl⟩;rcases alw i re.kids.length with aE|gE
  ·obtain⟨k,hk⟩:∃k,re.kids[i]?=some k:=cb aE;have hm:=List.mem_of_getElem? hk;have aH:(i:Int)<(re.kids.length:Int):=ae;have G5:tL (re.kids.take (i+1))=tL (re.kids.take i)+ed k:=by rw[bn hk,Ii]
   have dw:=ih k hm (jG k hm);have hyr:0<=ed k/\ed k<=8193:=by unfold ed;omega
   have UH:=yF (re.kids.take i);have yp:(re.kids.take i).length=i:=cV;have YA:IntKind.i64.wrap ((i:Int)+1)=((i+1:Nat):Int):=by rw[bK _ ae];rfl
   rw[yp]at UH;generalize ed k=y at *;generalize tL (re.kids.take i)=S at *;simp only[i64]at dw;by_cases o3:re.op=3
   ·have o5:¬re.op=5:=by omega
    have r1:qT re (i+1)=2*(i:Int):=by unfold qT;rw[be o3,bm];omega
    cases i with
    |zero =>
     have r0:qT re 0=0:=by unfold qT;rw[be o3,be rfl]
     have w1:IntKind.i64.wrap (S+0+y)=S+y:=by rw[bK _ ae];omega
     rw[r0]at h3;have g0:¬(0:Int)<((0:Nat):Int):=ae;simp only[zI,simprocAttr,-FF,aL,Re.ah re,ak8,ak9,iD,bD,h1,h3,h5,aH,hk,w1,gt_iff_lt];refine dk dw ?_;simp only[zI,simprocAttr,-FF,aL,Re.ah re,ak8,ak9,iD,bD,h1,h3,h5,aH,hk,w1,gt_iff_lt,o3,g0,YA];refine⟨re.kids.length-(0+1),_,_,ae,bO.refl,0+1,rfl,ae,?_,?_,?_,by simp [aL,Re.ah re,iD,bD,o3]⟩ <;> (try simp only[zU,Ft,qa,qe,Fp,reduceIte])
     ·exact h1
     ·rw[G5,r1];simp
    |succ j =>
     have r0:qT re (j+1)=2*(j:Int):=by unfold qT;rw[be o3,bm];omega
     have w1:IntKind.i64.wrap (S+2*(j:Int)+y)=S+2*(j:Int)+y:=bK _ ae;have w2:IntKind.i64.wrap (S+2*(j:Int)+y+2)=S+y+2*((j+1:Nat):Int):=by rw[bK _ ae];omega
     rw[r0]at h3;have g0:(0:Int)<((j+1:Nat):Int):=ae;simp only[zI,simprocAttr,-FF,aL,Re.ah re,ak8,ak9,iD,bD,h1,h3,h5,aH,hk,w1,gt_iff_lt];refine dk dw ?_;simp only[zI,simprocAttr,-FF,aL,Re.ah re,ak8,ak9,iD,bD,h1,h3,h5,aH,hk,w1,w2,gt_iff_lt,o3,g0,YA];refine⟨re.kids.length-(j+1+1),_,_,ae,bO.refl,j+1+1,rfl,ae,?_,?_,?_,by simp [aL,Re.ah re,iD,bD,o3]⟩ <;> (try simp only[zU,Ft,qa,qe,Fp,reduceIte])
     ·exact h1
     ·rw[G5,r1]
   ·by_cases o5:re.op=5
    ·have r0:qT re i=2*(i:Int):=by unfold qT;rw[ap o3,be o5]
     have r1:qT re (i+1)=2*(i:Int)+2:=by unfold qT;rw[ap o3,be o5];omega
     have w1:IntKind.i64.wrap (S+2*(i:Int)+y)=S+2*(i:Int)+y:=bK _ ae;have w2:IntKind.i64.wrap (S+2*(i:Int)+y+2)=S+y+(2*(i:Int)+2):=by rw[bK _ ae];omega
     rw[r0]at h3;simp only[zI,simprocAttr,-FF,aL,Re.ah re,ak8,ak9,iD,bD,h1,h3,h5,aH,hk,w1,gt_iff_lt];refine dk dw ?_;simp only[zI,simprocAttr,-FF,aL,Re.ah re,ak8,ak9,iD,bD,h1,h3,h5,aH,hk,w1,w2,gt_iff_lt,o5,YA];refine⟨re.kids.length-(i+1),_,_,ae,bO.refl,i+1,rfl,ae,?_,?_,?_,by simp [aL,Re.ah re,iD,bD,o5]⟩ <;> (try simp only[zU,Ft,qa,qe,Fp,reduceIte])
     ·exact h1
     ·rw[G5,r1]
    ·have r0:qT re i=0:=by unfold qT;rw[ap o3,ap o5]
     have r1:qT re (i+1)=0:=by unfold qT;rw[ap o3,ap o5]
     have w1:IntKind.i64.wrap (S+0+y)=S+y+0:=by rw[bK _ ae];omega
     rw[r0]at h3;simp only[zI,simprocAttr,-FF,aL,Re.ah re,ak8,ak9,iD,bD,h1,h3,h5,aH,hk,w1,gt_iff_lt];refine dk dw ?_;simp only[zI,simprocAttr,-FF,aL,Re.ah re,ak8,ak9,iD,bD,h1,h3,h5,aH,hk,w1,gt_iff_lt,o3,o5,YA];refine⟨re.kids.length-(i+1),_,_,ae,bO.refl,i+1,rfl,ae,?_,?_,?_,by simp [aL,Re.ah re,iD,bD]⟩ <;> (try simp only[zU,Ft,qa,qe,Fp,reduceIte])
     ·exact h1
     ·rw[G5,r1]
  ·have eg:i=re.kids.length:=by omega
   subst eg;have aH:¬(re.kids.length:Int)<re.kids.length:=ae;rw[alr]at h3;simp only[zI,simprocAttr,-FF,aL,Re.ah re,ak8,ak9,iD,bD,h1,h3,h5,aH]
mutual
def Re.nest:Re->List Int->Bool
 |.mk op _ kids _ _ _ n _,a=>if op=5/\n∈a then true else Re.My kids (if op=5 then a++[n] else a)
def Re.My:List Re->List Int->Bool
 |[],_=>false
 |k::l,a=>k.nest a||Re.My l a
end
variable{t:List Int}{s:List VL.Obj}{K:V->List VL.Obj->Prop}{Bs:List (List Bool)}{root:D}{nb:Nat}{parts:D}
theorem Re.Iq:∀(l:List Re) (a:List Int),Re.My l a=l.any λk=>k.nest a
 |[],_=>by simp [Re.My]
 |k::l,a=>by simp [Re.My,Re.Iq l a]
theorem Re.z7 (re:Re) (a:List Int):re.nest a=if re.op=5/\re.n∈a then true else re.kids.any λk=>k.nest (if re.op=5 then a++[re.n] else a):=by
 cases re;simp only[Re.nest,Re.Iq,Re.op,Re.kids,Re.n];rfl
theorem WB (re:Re):∀a:List Int,re.every (λr=>decide (jD r.n))=true->re.size<=1000000->a.length+re.size<=2000000->aS Tryz.prog 51 [lI re,.d (ar a)] (bV (re.nest a)):=by
 induction re using Re.ind with
 |h re ih =>
 intro a hs hz ha;obtain⟨dL,jG⟩:=(Re.az re).1 hs;have jd:=of_decide_eq_true dL;have gr:=Re.size_eq re;have ej:=Re.mX re.kids;have iw:∀a':List Int,a'.length<=a.length+1->∀k∈re.kids,aS Tryz.prog 51 [lI k,.d (ar a')] (bV (k.nest a')):=λa' RC k hk =>
  ih k hk a' (jG k hk) (by have:=Re.bZ hk;omega) (by have:=Re.bZ hk;omega)
 have uj:∀e∈(a.map λx=>[iD x]).map (λx=>x.map V.d),e.length=1:=λe he=>by obtain⟨x,hx,rfl⟩:=List.mem_map.1 he;obtain⟨p,_,rfl⟩:=List.mem_map.1 hx;rfl
 simp only[iD]at uj;rw[Re.z7];by_cases c2:re.op=5
 ·have hh:=UU a re.n ae;have c2':=eq_true c2;by_cases c3:re.n∈a
  ·rw[be ⟨c2,c3⟩];rw[bi c3]at hh;refine br Tryz.func51 Tryz.ntmps51 Tryz.results51 0 247 ?_;simp only[zI,simprocAttr,au re,iD,bD,c2,ar,ak4];refine⟨uj,⟨ae,λe he=>absurd he amc⟩,?_⟩;refine dk hh ?_;simp only[zI,simprocAttr,au re,iD,bD,bV,c2];all_goals rfl
  ·rw[ap (λh=>c3 h.2),be c2];rw[ce c3]at hh;have hL:=iw (a++[re.n]) aq;refine br Tryz.func51 Tryz.ntmps51 Tryz.results51 0 247 ?_;simp only[zI,simprocAttr,au re,iD,bD,c2,ar,ak4];refine⟨uj,⟨ae,λe he=>absurd he amc⟩,?_⟩;refine dk hh ?_;simp only[zI,simprocAttr,au re,iD,bD,bV,c2];refine And.intro (λe he=>by rw[List.mem_singleton.1 he];rfl) (And.intro ⟨ae,ae⟩ ?_);generalize haa:a++[re.n]=aa at *;refine ay (λn e s=>∃i:Nat,n=re.kids.length-i/\i<=re.kids.length/\e 2=.rf 0 0 0 0/\e 5=.d (ar aa)/\e 6=i64 i/\(∀x∈re.kids.take i,x.nest aa=false)/\s=[aL re])
    ⟨_,_,_,OH (s':=[aL re]) 5 (aa.map λx=>[iD x]) 1 [2,5,6] rfl rfl ?_ ?_ ae (ale _) ?_ (by simp [aL,Re.ah re,aY,ak,iD,bD]) rfl,0,rfl,ae,?_,?_,?_,aq,rfl⟩ ?_
   ·rw[alV,<- haa,aln aq,aln aq];simp [iD]
   ·simp
   ·simp [aL,Re.ah re,iD,bD,c2]
   ·rfl
   ·rfl
   ·rfl
   exact Zah
 ·have hL:=iw a ae;rw[ap (λh=>c2 h.1),ap c2];have c2':=eq_false c2;refine br Tryz.func51 Tryz.ntmps51 Tryz.results51 0 247 ?_;simp only[zI,simprocAttr,au re,iD,bD,c2',decide_false,ar,ak4];refine⟨uj,⟨ae,λe he=>absurd he amc⟩,?_⟩;generalize haa:a=aa at *;refine ay (λn e s=>∃i:Nat,n=re.kids.length-i/\i<=re.kids.length/\e 2=.rf 0 0 0 0/\e 5=.d (ar aa)/\e 6=i64 i/\(∀x∈re.kids.take i,x.nest aa=false)/\s=[aL re])
   ⟨_,_,_,OH (s':=[aL re]) 5 (aa.map λx=>[iD x]) 1 [2,5,6] rfl rfl ?_ ?_ ae (ale _) ?_ (by simp [aL,Re.ah re,aY,ak,iD,bD]) rfl,0,rfl,ae,?_,?_,?_,aq,rfl⟩ ?_
  ·rw[alV,aln aq];simp [iD]
  ·simp
  ·simp [aL,Re.ah re,iD,bD]
  ·rfl
  ·rfl
  ·rfl
  exact Zah
def mz (p:fU):List aw:=p.re.emit 0 []++[cq]
structure agO (p:fU) (t:List Int):Prop where
 Zh:p.re.every OR=true
 dp:p.re.dp<=1000000
 gF:fz t (bh t (p.re.cc 0) (p.re.cc 0).length) (mz p)
 sv:Ib (mz p) (2*p.aj.toNat)
 c0:0<=p.aj
 c1:p.aj<=9
 tl:t.length<=65536
 len:0<(mz p).length
theorem A5 {p:fU} (h:ep p t=0):agO p t:=by
 obtain⟨a1,a2,a3⟩:=qm h;obtain⟨b1,b2,b3⟩:=rF a1;obtain⟨v1,v2,v3,v4,v5⟩:=cW b1;have CI:=m8 v4 p.re v5 v1;unfold sL at b3;have hsh:=(Bool.and_eq_true_iff.1 b3).1;have hl:1+ed p.re<=8192:=of_decide_eq_true hsh;have hoc:p.re.dp<=8191:=by unfold ed at hl;omega
 have yh:=Re.vV p.re 0;refine⟨EW CI,ae,vx t _ p.re CI 0 ae (λj _ hj=>jL t _ _ j ae ae),?_,v3,v4,a2,by simp [mz]⟩;have hc:p.aj=(p.aj.toNat:Int):=ae;rw[hc]at v5;exact Se v5 0
theorem pL{k:Nat}{o:VL.Obj} (h:s[k]?=some o):s.set k o=s:=by
 apply List.ext_getElem?;intro j;by_cases hj:j=k
 ·subst hj;rw[List.getElem?_set_self (List.getElem?_eq_some_iff.1 h).1,h]
 ·exact Zbu
def WZ (k g b a:Nat) (C:List aw):VL.Obj:=ba [k] (db g b a C)
theorem Oa (k:Nat) (ρ:List Nat) (b a:Nat) (x:Option (Re×Nat)):aI (k::ρ) (cB b a x)=aI [k] (cB b a x):=by
 cases x with
 |none=>rfl
 |some x =>
  obtain⟨re,j⟩:=x;exact ZbW
theorem Em (k:Nat) (ρ:List Nat) (g b a:Nat) (C:List aw):ba (k::ρ) (db g b a C)=WZ k g b a C:=by unfold WZ ba db;simp only[alH];congr 1;apply alK;intro i _;simp [aw.cells,Oa k ρ,aI,aI.go,i64]
theorem DL{re:Re} (hs:re.every OR=true) (hz:re.dp<=1000000) (k:Nat)
  (h0:s[k]?=some (Nf t root parts (k+1) nb)) (h1:s[k+1]?=some (fW 0 Bs))
  (hk:∀b a,K (.so s.length (re.emit 0 []++[cq]).length 0 (re.emit 0 []++[cq]).length) (s++[WZ k (re.emit 0 []++[cq]).length b a (re.emit 0 []++[cq])])) :
  av Tryz.prog 30 [.rf k 0 0 0,.d (re.bA 0)] s K:=by
 have hc:av Tryz.prog 30 [.rf 0 0 0 0,.d (re.bA 0)] [dV t root parts 0 nb,fW 0 Bs] λv s=>∃b a,v=.so 2 (re.emit 0 []++[cq]).length 0 (re.emit 0 []++[cq]).length/\s=[dV t root parts 0 nb,fW 0 Bs,db (re.emit 0 []++[cq]).length b a (re.emit 0 []++[cq])] :=
  AT hs hz 0 λb a=>⟨b,a,rfl,rfl⟩
 have e6:∀ρ,ba (k::(k+1)::ρ) (dV t root parts 0 nb)=Nf t root parts (k+1) nb:=λρ=>rfl;refine iG hc [k,k+1] rfl aq (λj o ho=>?_) rfl (by simp [ak,ak.go]) ?_ ?_
 ·match j with
  |0=>cases ho;rw[e6];exact h0
  |1=>cases ho;rw[fQ];exact h1
  |j+2=>simp at ho
 ·have hb:=hU 2 0 Bs;simp only[alR,alW,alg,alf,alc,Fq,alp];simp [aY,dV,ak,hb]
 rintro v s' ⟨b,a,rfl,rfl⟩ _;generalize re.emit 0 []++[cq]=C at *;have e1:uO [k,k+1] s [dV t root parts 0 nb,fW 0 Bs] [dV t root parts 0 nb,fW 0 Bs,db C.length b a C]=[k,k+1,s.length]:=rfl;rw[e1];have e5:aI [k,k+1,s.length] (.so 2 C.length 0 C.length)=.so s.length C.length 0 C.length:=rfl;rw[e5];simp only[alg,alf,alc,Fq,al9,amj,List.drop_succ_cons,alV,ak8,ak9,e6,fQ,Em,aT];rw[pL h0,pL h1];exact hk b a
theorem BY{g b a:Nat}{C:List aw}{q c:Nat} (hg:fz t Bs C) (Sr:Ib C (2*c)) (hc:c<=1000) (oK:nb=Bs.length) (ht:t.length<=1000000) (hC:0<C.length) {p:Nat} (hp:p<=t.length) {ad:List Nat} (VV:ad.length=C.length)
  (k j i:Nat) (yl:[k,k+1,j,i].Nodup) (h0:s[k]?=some (Nf t root parts (k+1) nb)) (h1:s[k+1]?=some (fW 0 Bs)) (h2:s[j]?=some (WZ k g b a C)) (h3:s[i]?=some (bG q ad))
  (hk:K (.tu [(PR (il t Bs C p c).1).v,bV (il t Bs C p c).1.isSome]) (s.set i (bG q (il t Bs C p c).2))) :
  av Tryz.prog 31 [.rf k 0 0 0,.so j g 0 C.length,.so i q 0 C.length,i64 p,i64 c] s K:=by
 have e6:∀ρ,ba (k::(k+1)::ρ) (dV t root parts 0 nb)=Nf t root parts (k+1) nb:=λρ=>rfl;refine dD [k,k+1,j,i] (Q1 t root parts 0 nb Bs g b a C q hg c Sr hc oK ht hC p hp ad VV) yl rfl ?_ ?_ eh ?_ (r':=.tu [(PR (il t Bs C p c).1).v,bV (il t Bs C p c).1.isSome]) ?_ ?_
 ·simp only[ak8,ak9,e6,fQ,Em,oY,h0,h1,h2,h3]
 ·simp [aI,i64]
 ·have hb:=hU 4 0 Bs;simp only[alR,alW,alg,alf,alc,Fq,kR 4 _ _ _ ae,oD,alp];simp [aY,dV,ak,hb]
 ·simp [aI,aI.go,mL.v,i64,bV]
 ·simp only[ak8,ak9,e6,fQ,Em,oY,aT];rw[pL h0,pL h1,pL h2];exact hk
def Bn (p:fU) (t:List Int) (x:Int):Option mL:=if ep p t≠0\/x<0\/(t.length:Int)<x then none else (il t (bh t (p.re.cc 0) (p.re.cc 0).length) (mz p) x.toNat p.aj.toNat).1
def rh (p:fU) (t:List Int) (x:Int):Int:=if ep p t≠0 then ep p t else if x<0\/(t.length:Int)<x then 5 else 0
theorem Qm (p:fU) (t:List Int) (x:Int) (hf:p.re.df=true) (hl:t.length<=1000000):aS Tryz.prog 10 [bk p,.d (ar t),i64 x] (.tu [(PR (Bn p t x)).v,bV (Bn p t x).isSome,i64 (rh p t x)]):=by
 by_cases h:ep p t=0
 ·obtain⟨Zh,dp,gF,sv,c0,c1,tl,W7⟩:=A5 h;have bL:=λs K hk=>uM hf h (s:=s) (K:=K) hk;have Ml:=fM t (p.re.cc 0) (p.re.cc 0).length;by_cases hx:x<0\/(t.length:Int)<x
  ·have FB:Bn p t x=none:=be (.inr hx);have CX:rh p t x=5:=by unfold rh;rw[ap (by rw[h];simp),be hx]
   rw[FB,CX];generalize bh t (p.re.cc 0) (p.re.cc 0).length=Bs at *;generalize (p.re.cc 0).length=n at *;generalize p.re.bA 0=rd at *;generalize eG (p.re.cc 0)=pd at *;clear FB CX h Zh dp gF sv c0 c1 W7 hf;cases p with
   |mk re aj aM =>
   unfold bk at bL;simp only[Re.ah,ak8,ak9,ak5,ak6,i64,iD,bD,bV,ar]at bL;by_cases We:x<0
   ·refine br Tryz.func10 Tryz.ntmps10 Tryz.results10 0 16335 ?_;simp only[zI,simprocAttr,bk,Re.ah,bV,iD,bD,ar];refine bL _ _ ?_;simp only[zQ,simprocAttr,ar,Nf,alg,alf,alc,ak5,ak6,ne_eq,not_true_eq_false,ak4,We];rfl
   ·have yb:(t.length:Int)<x:=hx.resolve_left We;refine br Tryz.func10 Tryz.ntmps10 Tryz.results10 0 16335 ?_;simp only[zI,simprocAttr,bk,Re.ah,bV,iD,bD,ar];refine bL _ _ ?_;simp only[zQ,simprocAttr,ar,Nf,alg,alf,alc,ak5,ak6,ne_eq,not_true_eq_false,ak4,We,yb,gt_iff_lt];rfl
  ·obtain⟨y,rfl⟩:∃y:Nat,x=y:=⟨x.toNat,ae⟩
   have hy:y<=t.length:=ae;have hy1:¬(t.length:Int)<(y:Int):=ae;have ZR:¬(y:Int)<0:=ae;have FB:Bn p t y=(il t (bh t (p.re.cc 0) (p.re.cc 0).length) (mz p) y p.aj.toNat).1:=by unfold Bn;rw[ap (by rw[h];omega)];rfl
   have CX:rh p t y=0:=by unfold rh;rw[ap (by rw[h];simp),bm]
   rw[FB,CX];have eF:=λ(s:List VL.Obj) (K:V->List VL.Obj->Prop) (root parts:D) (nb:Nat) (Bs:List (List Bool))=>DL (t:=t) (root:=root) (parts:=parts) (nb:=nb) (Bs:=Bs) Zh dp 2 (s:=s) (K:=K);have yC:=λ(s:List VL.Obj) (K:V->List VL.Obj->Prop) (root parts:D) (g b a:Nat)=>BY (root:=root) (parts:=parts) (g:=g) (b:=b) (a:=a) (q:=1) gF sv ae Ml.symm hl W7 hy (ad:=List.replicate (mz p).length 0) aq (s:=s) (K:=K) 2 4 5 aF;have cQ:=gF.len;have Yx:p.re.emit 0 []++[cq]=mz p:=rfl;rw[Yx]at eF;have zn:(p.aj.toNat:Int)=p.aj:=ae;rw[zn]at yC;generalize bh t (p.re.cc 0) (p.re.cc 0).length=Bs at *;generalize (p.re.cc 0).length=n at *;generalize mz p=C at *;generalize p.re.bA 0=rd at *;generalize eG (p.re.cc 0)=pd at *;generalize il t Bs C y p.aj.toNat=R at *;clear FB CX h Zh dp gF sv c0 c1 hf Yx zn;cases p with
   |mk re aj aM =>
   unfold bk at bL;simp only[Re.ah,ak8,ak9,ak5,ak6,i64,iD,bD,bV,ar]at bL yC eF;refine br Tryz.func10 Tryz.ntmps10 Tryz.results10 0 16335 ?_;simp only[zI,simprocAttr,bk,Re.ah,bV,iD,bD,ar];refine bL _ _ ?_;simp only[zQ,simprocAttr,ar,Nf,alg,alf,alc,ak5,ak6,ne_eq,not_true_eq_false,ak4,ZR,hy1,gt_iff_lt];refine eF _ _ _ _ _ _ rfl rfl (λb a=>?_);simp only[zQ,simprocAttr,alg,alf,alc,Fq,ak5,ak6];refine aW cr.bu ?_;refine aW cr.bu ?_;refine cP mix [] [(4,[5],[5]),(6,[0],[]),(7,[0],[]),(8,[2,3,4,5],[5]),(12,[6],[6]),(13,[6],[6])] ?_;simp only[zQ,simprocAttr,alg,alf,alc,Fq,ak5,ak6,hole,XD,Value.oneCell'];refine⟨⟨alj _,ae,ae⟩,?_⟩;have hnz:(⟨1,true,1,List.replicate C.length [V.d (.sc (.int .i64 0))]⟩:VL.Obj)=bG 1 (List.replicate C.length 0):=by simp [bG,i64]
   refine⟨.tu [(PR R.1).v,bV R.1.isSome],[bG 1 R.2],rfl,λs' _ jT=>?_,?_⟩
   ·exact yC s' _ _ _ _ _ _ (jT 2 aq) (jT 3 aq) (jT 4 aq) ((jT 5 aq).trans (congrArg some hnz)) ⟨rfl,rfl⟩
   ·simp only[zQ,simprocAttr,mL.v,aT,alg,alf,alc,Fq,ak5,ak6]
 ·have FB:Bn p t x=none:=be (.inl h);have CX:rh p t x=ep p t:=by unfold rh;rw[be h]
  rw[FB,CX];have he:=vq p t hf h hl;generalize ep p t=se at *;clear hf FB CX;cases p with
  |mk re aj aM =>
  unfold bk at he;simp only[Re.ah,ak8,ak9,ak5,ak6,i64,iD,bD,bV,ar]at he;refine br Tryz.func10 Tryz.ntmps10 Tryz.results10 0 16335 ?_;simp only[zI,simprocAttr,bk,Re.ah,bV,iD,bD,ar];refine dk he ?_;simp only[zQ,simprocAttr,ar,ne_eq,h,not_false_eq_true];rfl
def mtD (m:mL):List D:=[iD m.s,iD m.e,bS m.c]
def jq (t:List Int) (Bs:List (List Bool)) (C:List aw) (c i:Nat):List mL:=(List.range i).filterMap λj=>(il t Bs C j c).1
theorem LD (t:List Int) (Bs:List (List Bool)) (C:List aw) (c i:Nat):jq t Bs C c (i+1)=jq t Bs C c i++(il t Bs C i c).1.toList:=by unfold jq;rw[List.range_succ,List.filterMap_append];cases h:(il t Bs C i c).1 <;> simp [h]
theorem Nk (t:List Int) (Bs:List (List Bool)) (C:List aw) (c i:Nat):(jq t Bs C c i).length<=i:=by unfold jq;exact al7 (List.length_filterMap_le _ _) aq
theorem Hz {t:List Int}{Bs:List (List Bool)}{C:List aw}{b c:Nat}:∀(k p:Nat) (st:eQ) (gb:Nat) (gI:Option mL),xp C c st->(qW t Bs C b c k p st gb gI).2.length=C.length
 |0,_,_,_,_,h=>h.ad
 |k+1,p,st,gb,gI,h=>by
  rw[qW];split
  ·exact h.ad
  ·refine Hz k _ _ _ _ (sV (p:=p) st.rd ⟨st.ad,false,[],gb⟩ h.th ⟨h.ad,aq,aq⟩ ?_).1;have:fC (p+1) st.ad<=st.ad.length:=al4;have:=h.ad;unfold mT;simp only[alf];omega
theorem Qx (t:List Int) (Bs:List (List Bool)) (C:List aw) (p c:Nat):(il t Bs C p c).2.length=C.length:=by unfold il;refine Hz _ _ _ _ _ ?_;unfold tp;refine(AV (p:=p) ⟨aq,aq,aq⟩ ?_ (by simp [gu])).1;have:fC p (List.replicate C.length 0)<=(List.replicate C.length 0).length:=al4;unfold mT;simp only[alQ,alf]at *;omega
def Sy (g:Nat) (l:List mL):VL.Obj:=⟨g,true,3,(l.map mtD).map λc=>c.map V.d⟩
theorem SC (n g:Nat) (l:List mL):aY n (Sy g l)=true:=by unfold aY Sy;rw[als];intro e he;obtain⟨x,hx,rfl⟩:=List.mem_map.1 he;rw[als];intro y hy;obtain⟨d,_,rfl⟩:=List.mem_map.1 hy;rfl
theorem VK (n k g b a:Nat) (hk:k<n) (C:List aw):aY n (WZ k g b a C)=true:=by
 have hp:∀x,ak n (aI [k] (cB b a x))=true:=by
  intro x;cases x with
  |none=>rfl
  |some x =>
   obtain⟨re,j⟩:=x;unfold cB;simp only;split
   ·simp [aI,aI.go,mB,nB,ak,ak.go,hk]
   ·split <;> simp [aI,aI.go,mB,nB,ak,ak.go,hk]
 unfold aY WZ ba db;rw[als];intro e he;simp only[alH]at he;obtain⟨i,_,rfl⟩:=List.mem_map.1 he;simp [aw.cells,aI,aI.go,i64,ak,hp]
def IE (p:fU) (t:List Int):List mL:=if ep p t≠0 then [] else jq t (bh t (p.re.cc 0) (p.re.cc 0).length) (mz p) p.aj.toNat (t.length+1)
theorem Qy (p:fU) (t:List Int) (hf:p.re.df=true) (hl:t.length<=1000000):aS Tryz.prog 16 [bk p,.d (ar t)] (.tu [.d (.sl ((IE p t).map mtD)),i64 (ep p t)]):=by
 by_cases h:ep p t=0
 ·obtain⟨Zh,dp,gF,sv,c0,c1,tl,W7⟩:=A5 h;have bL:=λs K hk=>uM hf h (s:=s) (K:=K) hk;have Ml:=fM t (p.re.cc 0) (p.re.cc 0).length;have FB:IE p t=jq t (bh t (p.re.cc 0) (p.re.cc 0).length) (mz p) p.aj.toNat (t.length+1):=ap (by rw[h];simp);rw[FB,h];have eF:=λ(s:List VL.Obj) (K:V->List VL.Obj->Prop) (root parts:D) (nb:Nat) (Bs:List (List Bool))=>DL (t:=t) (root:=root) (parts:=parts) (nb:=nb) (Bs:=Bs) Zh dp 1 (s:=s) (K:=K);have yC:=λ(s:List VL.Obj) (K:V->List VL.Obj->Prop) (y:Nat) (hy:y<=t.length) (ad:List Nat) (VV:ad.length=(mz p).length) (root parts:D) (g b a:Nat)=>BY (root:=root) (parts:=parts) (g:=g) (b:=b) (a:=a) (q:=0) gF sv ae Ml.symm hl W7 hy VV (s:=s) (K:=K) 1 3 4 aF;have cQ:=gF.len;have Yx:p.re.emit 0 []++[cq]=mz p:=rfl;rw[Yx]at eF;have zn:(p.aj.toNat:Int)=p.aj:=ae;simp only[zn]at yC;generalize bh t (p.re.cc 0) (p.re.cc 0).length=Bs at *;generalize (p.re.cc 0).length=n at *;generalize mz p=C at *;generalize p.re.bA 0=rd at *;generalize eG (p.re.cc 0)=pd at *;clear FB h Zh dp gF sv c0 c1 hf Yx;cases p with
  |mk re aj aM =>
  simp only at zn;generalize Int.toNat aj=c at *;unfold bk at bL;simp only[Re.ah,ak8,ak9,ak5,ak6,i64,iD,bD,bV,ar]at bL yC eF;have w1:IntKind.i64.wrap ((t.length:Int)+1)=((t.length+1:Nat):Int):=by rw[bK _ ae];rfl
  have hnz:∀g,(⟨g,true,1,List.replicate C.length [V.d (.sc (.int .i64 0))]⟩:VL.Obj)=bG g (List.replicate C.length 0):=λg=>by simp [bG,i64]
  refine br Tryz.func16 Tryz.ntmps16 Tryz.results16 0 51539623927 ?_;simp only[zI,simprocAttr,bk,Re.ah,bV,iD,bD,ar];refine bL _ _ ?_;simp only[zQ,simprocAttr,ar,Nf,alg,alf,alc,ak5,ak6,ne_eq,not_true_eq_false,ak4];refine eF _ _ _ _ _ _ rfl rfl (λb a=>?_);simp only[zQ,simprocAttr,alg,alf,ak4,ar,alc,Fq,ak5,ak6,w1];refine⟨⟨alj _,ae,ae⟩,?_⟩;refine ay (λm e s=>∃(i gg:Nat) (ad:List Nat),m=t.length+1-i/\i<=t.length+1/\ad.length=C.length/\e 2=.rf 0 0 0 0/\e 6=.rf 1 0 0 0/\e 8=.so 3 C.length 0 C.length/\e 9=.so 4 0 0 C.length/\e 10=.so 5 gg 0 (jq t Bs C c i).length/\e 34=i64 ((t.length+1:Nat):Int)/\e 35=i64 i /\
    s=[⟨0,true,10,[[i64 re.op,.d (.sl (re.set.map aU)),.d (.sl (re.kids.map Re.cells)),i64 re.mn,i64 re.mx,i64 re.mode,i64 re.n,bV re.neg,i64 aj,bV aM]]⟩,Nf t rd pd 2 n,fW 0 Bs,WZ 1 C.length b a C,bG 0 ad,Sy gg (jq t Bs C c i)])
   ⟨_,_,_,.On (gQ 10 3 rfl),0,0,List.replicate C.length 0,rfl,ae,aq,rfl,rfl,rfl,rfl,rfl,rfl,rfl,by rw[<- hnz];rfl⟩ ?_
  rintro m e s ⟨i,gg,ad,rfl,hi,VV,h2,h6,h8,h9,ek,Yb,Bh,rfl⟩;have uj:=Nk t Bs C c i;rcases alw i (t.length+1) with aE|gE
  ·have aH:(i:Int)<((t.length+1:Nat):Int):=by omega
   have G5:=LD t Bs C c i;have aaj:=Qx t Bs C i c;have hf2:=λ(s:List VL.Obj) (K:V->List VL.Obj->Prop)=>yC s K i ae ad VV;generalize il t Bs C i c=R at *;obtain⟨r1,ad2⟩:=R;simp only at G5 aaj hf2;simp only[zQ,simprocAttr,h2,h6,h8,h9,ek,Yb,Bh,aH];refine hf2 _ _ _ _ _ _ _ rfl rfl rfl rfl ?_;simp only[alD,alA];have g1:∀g l,(Sy g l).g=g:=λ_ _=>rfl;have g2:∀g l,(Sy g l).sz=3:=λ_ _=>rfl;cases r1 with
   |none =>
    have he:jq t Bs C c (i+1)=jq t Bs C c i:=by rw[G5];simp
    simp only[zQ,simprocAttr,h2,h6,h8,h9,ek,Yb,Bh,mL.v,Option.isSome_none];refine⟨t.length+1-(i+1),_,_,ae,bO.cut (s':=[⟨0,true,10,[[i64 re.op,.d (.sl (re.set.map aU)),.d (.sl (re.kids.map Re.cells)),i64 re.mn,i64 re.mx,i64 re.mode,i64 re.n,bV re.neg,i64 aj,bV aM]]⟩,Nf t rd pd 2 n,fW 0 Bs,WZ 1 C.length b a C,bG 0 ad2,Sy gg (jq t Bs C c i)]) 6 ae rfl ?_ [2,6,8,9,10,34,35] (by simp [ca,aZ,ak,h2,h6,h8,h9,ek,Yb,Bh,i64]),i+1,gg,ad2,rfl,aE,aaj,?_,?_,?_,?_,?_,?_,?_,by rw[he];rfl⟩ <;> (try simp only[zU,Ft,qa,qe,Fp,reduceIte])
    ·exact ZcK
    ·exact h2
    ·exact h6
    ·exact h8
    ·exact h9
    ·rw[he];exact ek
    ·exact Yb
    ·rw[bK _ ae];rfl
   |some r =>
    have he:jq t Bs C c (i+1)=jq t Bs C c i++[r]:=by rw[G5];rfl
    simp only[zQ,simprocAttr,h2,h6,h8,h9,ek,Yb,Bh,mL.v,Option.isSome_some,g1,g2,alc];have A1:(⟨gg+1,true,3,List.take (jq t Bs C c i).length (Sy gg (jq t Bs C c i)).aA++[[V.d (.sc (.int .i64 (PR (some r)).s)),V.d (.sc (.int .i64 (PR (some r)).e)),V.d (bS (PR (some r)).c)]]⟩:VL.Obj)=Sy (gg+1) (jq t Bs C c (i+1)):=by rw[he];simp [Sy,mtD,PR,iD];rw[aln aq]
    refine⟨λe he=>by rw[List.mem_singleton.1 he];rfl,⟨rfl,by simp [Sy],ae⟩,?_⟩;refine⟨t.length+1-(i+1),_,_,ae,bO.cut (s':=[⟨0,true,10,[[i64 re.op,.d (.sl (re.set.map aU)),.d (.sl (re.kids.map Re.cells)),i64 re.mn,i64 re.mx,i64 re.mode,i64 re.n,bV re.neg,i64 aj,bV aM]]⟩,Nf t rd pd 2 n,fW 0 Bs,WZ 1 C.length b a C,bG 0 ad2,Sy (gg+1) (jq t Bs C c (i+1))]) 6 ae ?_ ?_ [2,6,8,9,10,34,35] (by simp [ca,aZ,ak,h2,h6,h8,h9,ek,Yb,Bh,i64]),i+1,gg+1,ad2,rfl,aE,aaj,?_,?_,?_,?_,?_,?_,?_,rfl⟩ <;> (try simp only[zU,Ft,qa,qe,Fp,reduceIte])
    ·rw[<- A1];rfl
    ·exact ZcK
    ·exact h2
    ·exact h6
    ·exact h8
    ·exact h9
    ·rw[he,ald];rfl
    ·exact Yb
    ·rw[bK _ ae];rfl
  ·have eg:i=t.length+1:=by omega
   subst eg;simp only[zQ,simprocAttr,h2,h6,h8,h9,ek,Yb,Bh,alZ,Sy];rw[be aq,fI 7 0 _ _ _ aq];rfl
 ·have FB:IE p t=[]:=be h;rw[FB];have he:=vq p t hf h hl;generalize ep p t=se at *;clear hf FB;cases p with
  |mk re aj aM =>
  unfold bk at he;simp only[Re.ah,ak8,ak9,ak5,ak6,i64,iD,bD,bV,ar]at he;refine br Tryz.func16 Tryz.ntmps16 Tryz.results16 0 51539623927 ?_;simp only[zI,simprocAttr,bk,Re.ah,bV,iD,bD,ar];refine dk he ?_;simp only[zQ,simprocAttr,ar,ne_eq,h,not_false_eq_true];all_goals rfl
def Xm (x:Int):Re:=.mk 1 [(x,x)] [] 0 0 0 0 false
def EV:fU:=⟨.mk 2 [] [Xm 97,.mk 7 [] [Xm 98] 0 0 0 0 false] 0 0 0 0 false,0,false⟩
def Lp:fU:=⟨.mk 2 [] [.mk 8 [] [Xm 97] 0 0 0 0 true,Xm 98] 0 0 0 0 false,0,false⟩
set_option maxRecDepth 100000
set_option maxHeartbeats 4000000
theorem agM:ep EV [97,98,97,97]=0:=by decide +kernel
theorem adn:ep Lp [97,98]=0:=by decide +kernel
theorem agj:J0 EV [97,98,97,97]=[[false,true,false,false,false]]:=by decide +kernel
theorem af2:J0 Lp [97,98]=[[true,false,true]]:=by decide +kernel
theorem afx:rh EV [97,98,97,97] 0=0:=by decide +kernel
theorem An {α:Type}{a b:List α}{i:Nat}{x y:α} (ha:a[i]?=some x) (hb:b[i]?=some y):a.take (i+1)=b.take (i+1) ↔ a.take i=b.take i/\x=y:=by
 rw[bn ha,bn hb];constructor
 ·intro h;have hl:(a.take i).length=(b.take i).length:=by have:=(List.getElem?_eq_some_iff.1 ha).1;have:=(List.getElem?_eq_some_iff.1 hb).1;rw[alM,alM];omega
  obtain⟨h1,h2⟩:=List.append_inj h hl;exact⟨h1,by simpa using h2⟩
 ·rintro ⟨h1,rfl⟩;rw[h1]
def oN (l:List (List Bool)):D:=.sl (l.map λl=>[.sl (l.map λb=>[bD b])])
theorem Cj (a b:List (List Bool)) (h1:a.length<=1000000) (h2:∀x∈a,x.length<=1000000):aS Tryz.prog 28 [.d (oN a),.d (oN b)] (bV (decide (a=b))):=by
 refine br Tryz.func28 Tryz.ntmps28 Tryz.results28 0 115 ?_;by_cases hl:a.length=b.length
 ·have Cu:((a.length:Int)=(b.length:Int))=True:=eq_true ae;simp only[zQ,simprocAttr,oN,ak4,Cu,ne_eq,not_true_eq_false];refine ay (λn e s=>∃i:Nat,n=a.length-i/\i<=a.length/\e 0=.d (oN a)/\e 1=.d (oN b)/\e 5=i64 i/\a.take i=b.take i/\s=[])
   ⟨_,_,_,bO.refl,0,rfl,ae,rfl,rfl,rfl,aq,rfl⟩ ?_
  rintro n e s ⟨i,rfl,hi,q0,q1,q5,hT,rfl⟩;rcases alw i a.length with aE|gE
  ·have aH:(i:Int)<(a.length:Int):=by omega
   have JO:(i:Int)<(b.length:Int):=ae;have hi0:(0:Int)<=(i:Int):=ae;obtain⟨x,hx⟩:∃x,a[i]?=some x:=cb aE;obtain⟨y,hy⟩:∃y,b[i]?=some y:=cb;have Hh:=h2 x (List.mem_of_getElem? hx);simp only[oN]at q0 q1;by_cases So:x.length=y.length
   ·have aaN:((x.length:Int)=(y.length:Int))=True:=eq_true ae;simp only[zQ,simprocAttr,oN,q0,q1,q5,aH,JO,hi0,ak4,List.getElem?_map,hx,hy,ala,ak7];refine cP mix [] [] ?_;simp only[zQ,simprocAttr,oN,q0,q1,q5,aH,JO,hi0,ak4,List.getElem?_map,hx,hy,ala,ak7,aaN,ne_eq,not_true_eq_false];refine ay (λn e s=>∃j:Nat,n=x.length-j/\j<=x.length/\e 0=.d (oN a)/\e 1=.d (oN b)/\e 5=i64 i/\e 6=i64 j/\x.take j=y.take j/\s=[])
     ⟨_,_,_,bO.refl,0,rfl,ae,by (try simp only[zU,Ft,qa,qe,Fp,reduceIte]);exact q0,by (try simp only[zU,Ft,qa,qe,Fp,reduceIte]);exact q1,by (try simp only[zU,Ft,qa,qe,Fp,reduceIte]);exact q5,rfl,aq,rfl⟩ ?_
    clear q0 q1 q5;rintro n e s ⟨j,rfl,hj,q0,q1,q5,q6,hTj,rfl⟩;simp only[oN]at q0 q1;rcases alw j x.length with jlt|jge
    ·have Vh:(j:Int)<(x.length:Int):=by omega
     have jlb:(j:Int)<(y.length:Int):=ae;have VT:(0:Int)<=(j:Int):=ae;obtain⟨u,hu⟩:∃u,x[j]?=some u:=cb jlt;obtain⟨v,hv⟩:∃v,y[j]?=some v:=cb;have rN:∀{z:List Bool}{w:Bool},z[j]?=some w->(z.map λb=>[D.sc (Value.bool b)])[j]?=some [D.sc (Value.bool w)]:=λh=>by rw[List.getElem?_map,h];rfl
     have G5:=An hu hv;have hw:IntKind.i64.wrap ((j:Int)+1)=((j+1:Nat):Int):=by rw[bK _ ae];rfl
     simp only[zQ,simprocAttr,oN,q0,q1,q5,q6,aH,JO,hi0,Vh,jlb,VT,ak4,List.getElem?_map,hx,hy,hu,hv,ala,ak7];refine cP mix [] [] ?_;by_cases Xk:u=v
     ·have huv:(u == v)=true:=by rw[Xk];exact beq_self_eq_true v
      simp only[zQ,simprocAttr,oN,q0,q1,q5,q6,aH,JO,hi0,Vh,jlb,VT,ak4,List.getElem?_map,hx,hy,hu,hv,ala,ak7,hw,huv,ne_eq,not_true_eq_false,not_false_eq_true];refine⟨x.length-(j+1),_,_,ae,bO.refl,j+1,rfl,jlt,?_,?_,?_,?_,G5.2 ⟨hTj,Xk⟩,rfl⟩ <;> (try simp only[zU,Ft,qa,qe,Fp,reduceIte])
      ·exact q0
      ·exact q1
      ·exact q5
     ·have huv:(u == v)=false:=by cases u <;> cases v <;> first|rfl|exact absurd rfl Xk
      have eX:a≠b:=λh=>Xk (by rw[h,hy]at hx;cases hx;rw[hu]at hv;cases hv;rfl);simp only[zQ,simprocAttr,oN,q0,q1,q5,q6,aH,JO,hi0,Vh,jlb,VT,ak4,List.getElem?_map,hx,hy,hu,hv,ala,ak7,hw,huv,ne_eq,not_true_eq_false,not_false_eq_true,ce eX]
    ·have Rj:j=x.length:=by omega
     subst Rj;have Vh:¬(x.length:Int)<(x.length:Int):=ae;simp only[zQ,simprocAttr,oN,q0,q1,q5,q6,aH,JO,hi0,Vh,ak4,List.getElem?_map,hx,hy,ala,ak7];have OB:x=y:=by rw[alr,So,alr]at hTj;exact hTj
     have hw:IntKind.i64.wrap ((i:Int)+1)=((i+1:Nat):Int):=by rw[bK _ ae];rfl
     refine⟨a.length-(i+1),_,_,ae,bO.refl,i+1,rfl,aE,?_,?_,?_,(An hx hy).2 ⟨hT,OB⟩,rfl⟩ <;> (try simp only[zU,Ft,qa,qe,Fp,reduceIte])
     ·exact q0
     ·exact q1
     ·rw[hw]
   ·have aaN:¬((x.length:Int)=(y.length:Int)):=by omega
    have eX:a≠b:=λh=>So (by rw[h,hy]at hx;cases hx;rfl);simp only[zQ,simprocAttr,oN,q0,q1,q5,aH,JO,hi0,ak4,List.getElem?_map,hx,hy,ala,ak7];refine cP mix [] [] ?_;simp only[zQ,simprocAttr,oN,q0,q1,q5,aH,JO,hi0,ak4,List.getElem?_map,hx,hy,ala,ak7,aaN,ne_eq,not_false_eq_true,ce eX]
  ·have eg:i=a.length:=by omega
   subst eg;have aH:¬(a.length:Int)<(a.length:Int):=ae;have hab:a=b:=by rw[alr,hl,alr]at hT;exact hT
   simp only[oN]at q0 q1;simp only[zQ,simprocAttr,oN,q0,q1,q5,aH,ak4,bi hab]
 ·have Cu:¬((a.length:Int)=(b.length:Int)):=by omega
  have eX:a≠b:=λh=>hl (by rw[h]);simp only[zQ,simprocAttr,oN,ak4,Cu,ne_eq,not_false_eq_true,ce eX]
set_option maxRecDepth 100000
set_option maxHeartbeats 16000000
theorem afa:IE Lp [97,98]=[]:=by decide +kernel
theorem acp:(Bn EV [97,98,97,97] 0).isSome=true/\(PR (Bn EV [97,98,97,97] 0)).e=1:=by decide +kernel
theorem W6:EV.re.df=true/\Lp.re.df=true:=by decide +kernel
theorem iC {P:Program}{f:FuncId}{args:List V} (cargs:List V) {s:List VL.Obj}{K:V->List VL.Obj->Prop} (hc:bq.go s.length s args=some cargs) (h:av P f cargs s K):av P f args s K:=bC [] hc h
theorem QO:aS Tryz.prog 9 [] (bV true):=by have b1:=MC EV [97,98,97,97] W6.1 aF;have b2:=Qm EV [97,98,97,97] 0 W6.1 aF;have b3:=MC Lp [97,98] W6.2 aF;have b4:=Qy Lp [97,98] W6.2 aF;rw[agM,agj]at b1;rw[afx,acp.1]at b2;rw[adn,af2]at b3;rw[adn,afa]at b4;have hm:=acp.2;generalize PR (Bn EV [97,98,97,97] 0)=m at *;have s1:=Cj [[false,true,false,false,false]] [[false,true,false,false,false]] aF aF;have s2:=Cj [[true,false,true]] [[true,false,true]] aF aF;rw[bi rfl]at s1 s2;refine br Tryz.func9 Tryz.ntmps9 Tryz.results9 0 16383 ?_;simp only[zQ,simprocAttr,ar];refine iC [bk EV,.d (ar [97,98,97,97])] rfl ?_;refine dk b1 ?_;simp only[zQ,simprocAttr,ar,uW];refine iC [bk EV,.d (ar [97,98,97,97]),i64 0] rfl ?_;refine dk b2 ?_;simp only[zQ,simprocAttr,ar,uW,mL.v];refine iC [bk Lp,.d (ar [97,98])] rfl ?_;refine dk b3 ?_;simp only[zQ,simprocAttr,ar,uW];refine iC [bk Lp,.d (ar [97,98])] rfl ?_;refine dk b4 ?_;have hz0:(((0:Nat):Int)=0)=True:=eq_true rfl;simp only[zQ,simprocAttr,ar,uW,hm,hz0];refine iC [.d (oN [[false,true,false,false,false]]),.d (oN [[false,true,false,false,false]])] rfl ?_;refine dk s1 ?_;simp only[zQ,simprocAttr,ar,uW,hm,hz0];refine iC [.d (oN [[true,false,true]]),.d (oN [[true,false,true]])] rfl ?_;refine dk s2 ?_;simp only[zQ,simprocAttr,ar,uW,hm,hz0]
end Go.Proofs.YtjjfioalgbecmaaGreat
