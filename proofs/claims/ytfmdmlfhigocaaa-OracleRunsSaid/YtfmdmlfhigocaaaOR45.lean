/- A part of the proof (K3 K4 K5 K6). -/
import Derived.Test.YtfmdmlfhigocaaaOR32
set_option linter.unusedSimpArgs false
set_option linter.unusedVariables false
open Nat renaming reduceShiftRight → cy, reduceMod → cJ, reduceEqDiff → dV, reduceBEq → gV
set_option maxRecDepth 100000
set_option maxHeartbeats 80000000
namespace Go.Proofs.Ytfmdmlfhigocaaa
open Go.VL Go.Proofs.Try
variable{mn:Int}{mx:Int}{l:List Re}{re:Re}
theorem VD (op mn mx k n:Int):Jl op mn mx k n<=10000:=by unfold Jl;omega
theorem JT {op k n:Int} (hk:op=3->2<=k) (hn:0<=n) (h0:0<=mn) (h1:op=4->mx=-1\/1<=mx/\mn<=mx):0<=Jl op mn mx k n:=by
 unfold Jl;by_cases o1:op=1\/op=11
 ·rw[be o1];omega
 rw[ap o1];by_cases o3:op=3
 ·rw[be o3];have:=hk o3;omega
 rw[ap o3];by_cases o5:op=5
 ·rw[be o5];omega
 rw[ap o5];by_cases o4:op=4
 ·rw[be o4];have h1:=h1 o4;by_cases om:mx=-1
  ·rw[be om];have:0<=(mn+1)*n:=akj ae hn;omega
  ·rw[ap om];have:0<=mx*n:=akj ae hn;omega
 ·rw[ap o4];omega
def uM (re:Re):Bool:=Sa re&&decide (re.op=4->re.mx=-1\/1<=re.mx/\re.mn<=re.mx)
theorem jr (re:Re):re.every uM=true->0<=re.kK/\re.kK<=10000:=by
 induction re using Re.ind with
 |h re ih =>
 intro hs;obtain⟨ef,fU⟩:=(Re.av re).1 hs;unfold uM at ef;obtain⟨ef,WH⟩:=Bool.and_eq_true_iff.1 ef;have WH:=of_decide_eq_true WH;obtain⟨q1,q2,q3,q4,q5,q6,q7,q8,q9,ji⟩:=fB.1 ef;have hL:∀l:List Re,(∀k∈l,k∈re.kids)->0<=Re.gx l:=by
  intro l;induction l with
  |nil=>intro _;simp [Re.gx]
  |cons k l D0 =>
   intro hm;have h1:=(ih k (hm k aj) (fU k (hm k aj))).1;have h2:=D0 (λx hx=>hm x (by simp [hx]));simp only[Re.gx];omega
 rw[Re.Ir];exact⟨JT (λh=>by have:=q2 h;omega) (hL _ (λ_ h=>h)) q5 WH,VD _ _ _ _ _⟩
theorem si (h:∀k∈l,0<=k.kK/\k.kK<=10000):0<=Re.gx l/\Re.gx l<=10000*l.length:=by
 induction l with
 |nil=>simp [Re.gx]
 |cons k l ih =>
  have h1:=h k aj;have h2:=ih (λx hx=>h x (by simp [hx]));simp only[Re.gx,ai8];omega
theorem Ol (re:Re):re.every uM=true->aM prog 76 [kj re] (i64 re.kK):=by
 induction re using Re.ind with
 |h re ih =>
 intro hs;obtain⟨ef,fU⟩:=(Re.av re).1 hs;unfold uM at ef;obtain⟨ef,WH⟩:=Bool.and_eq_true_iff.1 ef;have WH:=of_decide_eq_true WH;obtain⟨q1,q2,q3,q4,q5,q6,q7,q8,q9,ji⟩:=fB.1 ef;have Zr:∀k∈re.kids,0<=k.kK/\k.kK<=10000:=λk hk=>jr k (fU k hk);have IV:∀i,i<=re.kids.length->0<=Re.gx (re.kids.take i)/\Re.gx (re.kids.take i)<=10000*i:=λi hi=>by have:=si (l:=re.kids.take i) (λk hk=>Zr k (ajT hk));rw[aj3,Nat.min_eq_left hi]at this;exact this
 refine bk func76 ntmps76 results76 0 6291487 ?_;simp only[zI,simprocAttr,aq re,iD,bD];refine ay (λn e s=>∃i:Nat,n=re.kids.length-i/\i<=re.kids.length/\e 1=.rf 0 0 0 0/\e 3=i64 (Re.gx (re.kids.take i))/\e 4=i64 i/\s=[aI re]) ⟨_,_,_,bJ.refl,0,rfl,ae,rfl,rfl,rfl,by simp [aI,Re.ah re,iD,bD]⟩ ?_;rintro n e s ⟨i,rfl,hi,h1,h3,h4,rfl⟩;rcases ajr i re.kids.length with aB|iA
 ·obtain⟨k,hk⟩:∃k,re.kids[i]?=some k:=bZ aB;have hm:=ai4 hk;have aH:(i:Int)<re.kids.length:=ae;have h5:=IV (i+1) ae;have h6:=IV i ae;have h7:=Zr k hm;rw[bj hk,Re.Bo]at h5;simp only[zX,simprocAttr,aI,Re.ah re,aiZ,ai2,iD,bD,h1,h3,h4,i64,aH,hk];refine bO (ih k hm (fU k hm)) ?_;simp only[zX,simprocAttr,aI,Re.ah re,iD,bD,h1,h3,h4,i64,aH,hk];refine⟨re.kids.length-(i+1),_,_,ae,bJ.refl,i+1,rfl,aB,?_,?_,?_,rfl⟩ <;> (try simp only[zU,gV,cy,cJ,dV,reduceIte])
  ·exact h1
  ·rw[bF _ ae,bj hk,Re.Bo]
  ·rw[bF _ ae];rfl
 ·have dY:i=re.kids.length:=by omega
  subst dY;have aH:¬(re.kids.length:Int)<re.kids.length:=ae;have h6:=IV re.kids.length ae;rw[ajt]at h3 h6;rw[Re.Ir];generalize Re.gx re.kids=z at *;have w2:IntKind.i64.wrap (2*(re.kids.length:Int))=2*(re.kids.length:Int):=bF _ ae;have w3:IntKind.i64.wrap (z+2*(re.kids.length:Int))=z+2*(re.kids.length:Int):=bF _ ae;have w4:IntKind.i64.wrap (z+2*(re.kids.length:Int)-2)=z+2*(re.kids.length:Int)-2:=bF _ ae;have w5:IntKind.i64.wrap (z+2)=z+2:=bF _ ae;have JH:0<=(re.mn+1)*z/\(re.mn+1)*z<=33*z:=⟨akj ae ae,ajG ae ae⟩
  have Jo:-1*z<=re.mx*z/\re.mx*z<=32*z:=⟨ajG ae ae,ajG ae ae⟩
  have w6:IntKind.i64.wrap (re.mn+1)=re.mn+1:=bF _ ae;have w7:IntKind.i64.wrap ((re.mn+1)*z)=(re.mn+1)*z:=bF _ ae;have w8:IntKind.i64.wrap ((re.mn+1)*z+2)=(re.mn+1)*z+2:=bF _ ae;have w9:IntKind.i64.wrap (re.mx*z)=re.mx*z:=bF _ ae;have w10:IntKind.i64.wrap (re.mx*z+re.mx)=re.mx*z+re.mx:=bF _ ae;have w11:IntKind.i64.wrap (re.mx*z+re.mx-re.mn)=re.mx*z+re.mx-re.mn:=bF _ ae;unfold Jl;simp only[zX,simprocAttr,aI,Re.ah re,aiZ,ai2,iD,bD,h1,h3,h4,i64,aH];by_cases o1:re.op=1
  ·simp only[zX,simprocAttr,aI,Re.ah re,aiZ,ai2,iD,bD,h1,h3,h4,i64,o1,true_or,if_true]
  by_cases oh:re.op=11
  ·simp only[zX,simprocAttr,aI,Re.ah re,aiZ,ai2,iD,bD,h1,h3,h4,i64,o1,oh,or_true,if_true]
  by_cases o3:re.op=3
  ·simp only[zX,simprocAttr,aI,Re.ah re,aiZ,ai2,iD,bD,h1,h3,h4,i64,o1,oh,o3,or_self,if_false,if_true,w2,w3,w4]
  by_cases o5:re.op=5
  ·simp only[zX,simprocAttr,aI,Re.ah re,aiZ,ai2,iD,bD,h1,h3,h4,i64,o1,oh,o3,o5,or_self,if_false,if_true,w5]
  by_cases o4:re.op=4
  ·by_cases om:re.mx=-1
   ·simp only[zX,simprocAttr,aI,Re.ah re,aiZ,ai2,iD,bD,h1,h3,h4,i64,o1,oh,o3,o5,o4,om,or_self,if_false,if_true,w6,w7,w8]
   ·simp only[zX,simprocAttr,aI,Re.ah re,aiZ,ai2,iD,bD,h1,h3,h4,i64,o1,oh,o3,o5,o4,om,or_self,if_false,if_true,w9,w10,w11]
  ·simp only[zX,simprocAttr,aI,Re.ah re,aiZ,ai2,iD,bD,h1,h3,h4,i64,o1,oh,o3,o5,o4,or_self,if_false,if_true]
def tH (re:Re):Bool:=uM re&&decide ((re.op=0\/re.op=1\/re.op=2\/re.op=3\/re.op=4\/re.op=5\/re.op=11)/\(re.op=4\/re.op=5->re.kids.length=1)/\(re.op=0->re.kids=[]))
theorem iI:tH re=true ↔ uM re=true/\(re.op=0\/re.op=1\/re.op=2\/re.op=3\/re.op=4\/re.op=5\/re.op=11)/\(re.op=4\/re.op=5->re.kids.length=1)/\(re.op=0->re.kids=[]):=by unfold tH;rw[aji,decide_eq_true_eq]
theorem g7:uM re=true ↔ Sa re=true/\(re.op=4->re.mx=-1\/1<=re.mx/\re.mn<=re.mx):=by unfold uM;rw[aji,decide_eq_true_eq]
theorem nD (h:re.every tH=true):re.every uM=true:=dN (λ_ h=>(iI.1 h).1) re h
theorem JR (h:re.every uM=true):re.every Sa=true:=dN (λ_ h=>(g7.1 h).1) re h
theorem EC (h:∀k∈l,0<=k.kK) {k:Re} (hk:k∈l):k.kK<=Re.gx l:=by
 induction l with
 |nil=>cases hk
 |cons x l ih =>
  have h1:=h x aj;have h2:0<=Re.gx l:=by
   have:∀l':List Re,(∀k∈l',0<=k.kK)->0<=Re.gx l':=by
    intro l';induction l' with
    |nil=>intro _;simp [Re.gx]
    |cons y l' ih'=>intro h';have:=h' y aj;have:=ih' (λz hz=>h' z (by simp [hz]));simp only[Re.gx];omega
   exact this l (λy hy=>h y (by simp [hy]))
  simp only[Re.gx];rcases List.mem_cons.1 hk with rfl|hk
  ·omega
  ·have:=ih (λy hy=>h y (by simp [hy])) hk;omega
theorem x7 {c:Int->List kL}{n:Int} (h:∀f,((c f).length:Int)=n):∀(k:Nat) (f:Int),((gF c k f).length:Int)=k*n
 |0,f=>by simp [gF]
 |k+1,f=>by
  rw[gF,ai6];have h1:=x7 h k f;have h2:=h (f+(gF c k f).length)
  push_cast
  rw[Int.add_mul];omega
theorem uF {c:Int->List kL}{n:Int} (h:∀f,((c f).length:Int)=n) (mode fin:Int):∀(k:Nat) (f:Int),((gu c mode fin k f).length:Int)=k*(n+1)
 |0,f=>by simp [gu]
 |k+1,f=>by
  rw[gu,ai6,ai8];have h1:=uF h mode fin k f;have h2:=h (f+(gu c mode fin k f).length+1)
  push_cast
  rw[Int.add_mul];omega
theorem I5 (h:re.kK<=9000):re.kK=(if re.op=1\/re.op=11 then 1 else if re.op=3 then Re.gx re.kids+2*(re.kids.length:Int)-2 else if re.op=5 then Re.gx re.kids+2 else if re.op=4 then (if re.mx=-1 then (re.mn+1)*Re.gx re.kids+2 else re.mx*Re.gx re.kids+re.mx-re.mn) else Re.gx re.kids):=by rw[Re.Ir]at h ⊢;unfold Jl at h ⊢;omega
theorem Ad (hs:re.every tH=true) (h:re.kK<=9000) (ho:re.op≠1/\re.op≠11):Re.gx re.kids<=9000/\∀k∈re.kids,k.kK<=9000:=by
 obtain⟨ef,fU⟩:=(Re.av re).1 hs;obtain⟨hc,An,V3,h0⟩:=iI.1 ef;obtain⟨hb,SN⟩:=g7.1 hc;obtain⟨q1,q2,q3,q4,q5,q6,q7,q8,q9,ji⟩:=fB.1 hb;have Zr:∀k∈re.kids,0<=k.kK:=λk hk=>(jr k (nD (fU k hk))).1;have hz:=(si (l:=re.kids) (λk hk=>jr k (nD (fU k hk)))).1;have hu:=I5 h;have hle:Re.gx re.kids<=9000:=by
  generalize Re.gx re.kids=z at *;rw[bd]at hu;split at hu
  ·rename_i o3;have:=q2 o3;omega
  ·split at hu
   ·omega
   ·split at hu
    ·split at hu
     ·have:1*z<=(re.mn+1)*z:=ajG ae ae;omega
     ·rename_i o4 om;have hm:=(SN o4).resolve_left om;have:1*z<=re.mx*z:=ajG ae ae;omega
    ·omega
 exact⟨hle,λk hk=>Int.le_trans (EC Zr hk) hle⟩
theorem Cc (h:∀k∈l,∀f,((k.code f).length:Int)=k.kK):∀f,((Re.ek l f).length:Int)=Re.gx l:=by
 induction l with
 |nil=>intro f;simp [Re.ek,Re.gx]
 |cons k l ih =>
  intro f;have h1:=h k aj f;have h2:=ih (λx hx=>h x (by simp [hx])) (f+(k.code f).length);simp only[Re.ek,Re.gx,ai6];omega
theorem K4 (h:∀k∈l,∀f,((k.code f).length:Int)=k.kK):l≠[]->∀f,((Re.eY l f).length:Int)=Re.gx l+2*l.length-2:=by
 induction l with
 |nil=>intro hn;exact absurd rfl hn
 |cons k l ih =>
  intro _ f;cases l with
  |nil =>
   simp only[Re.eY,Re.gx,ai8,ai9];have:=h k aj f;omega
  |cons k2 l2 =>
   have h1:=h k aj (f+1);have h2:=ih (λx hx=>h x (by simp only[ajF]at hx ⊢;exact .inr hx)) aj (f+(k.code (f+1)).length+2);rw[Re.eY];generalize Re.eY (k2::l2) (f+(k.code (f+1)).length+2)=z at *;simp only[Re.gx,ai8,ai6]at h2 ⊢
   push_cast at h2 ⊢
   omega
theorem T8 {c:Int->List kL}{n:Int} (h:∀f,((c f).length:Int)=n) (mode sz f:Int) (h0:0<=mn) (h1:mx=-1\/1<=mx/\mn<=mx) :
  ((Ry c mn mx mode sz f).length:Int)=if mx=-1 then (mn+1)*n+2 else mx*n+mx-mn:=by
 have hp:=x7 h mn.toNat f;have e0:((mn.toNat:Nat):Int)=mn:=ae;rw[e0]at hp;unfold Ry;by_cases hm:mx=-1
 ·rw[be hm,be hm];have h2:=h (f+(gF c mn.toNat f).length+1);simp only[ai6,ai8,ai9]
  push_cast
  rw[Int.add_mul];omega
 ·rw[ap hm,ap hm];have h3:=uF h mode (f+sz) (mx-mn).toNat (f+(gF c mn.toNat f).length);have e1:(((mx-mn).toNat:Nat):Int)=mx-mn:=ae;rw[e1]at h3;simp only[ai6]
  push_cast
  generalize gu c mode (f+sz) (mx-mn).toNat (f+(gF c mn.toNat f).length)=z at *;rw[hp,h3,Int.mul_add,Int.sub_mul];omega
theorem GR {k:Re} (hl:l=[k]):(λi=>Re.En l i)=k.code:=by subst hl;funext i;simp [Re.En]
theorem pH (re:Re):re.every tH=true->re.kK<=9000->∀f,((re.code f).length:Int)=re.kK:=by
 induction re using Re.ind with
 |h re ih =>
 intro hs hz f;obtain⟨ef,fU⟩:=(Re.av re).1 hs;obtain⟨hc,An,V3,h0⟩:=iI.1 ef;obtain⟨hb,SN⟩:=g7.1 hc;obtain⟨q1,q2,q3,q4,q5,q6,q7,q8,q9,ji⟩:=fB.1 hb;have hu:=I5 hz;refine Eq.trans ?_ hu.symm;rw[Re.oz];by_cases o1:re.op=1
 ·rw[be o1,be (.inl o1)];rfl
 by_cases oh:re.op=11
 ·rw[ap o1,be oh,be (.inr oh)];rfl
 have hk:=Ad hs hz ⟨o1,oh⟩;have uu:∀k∈re.kids,∀f,((k.code f).length:Int)=k.kK:=λk hm f=>ih k hm (fU k hm) (hk.2 k hm) f;have WX:re.op=2->¬re.op=3:=ae;have o5':re.op=2->¬re.op=5:=ae;have o4':re.op=2->¬re.op=4:=ae;have o00:¬re.op=2->¬re.op=3->¬re.op=5->¬re.op=4->re.op=0:=ae;clear hu;rw[ap o1,ap oh,ap (show ¬(re.op=1\/re.op=11) from λh=>h.elim o1 oh)];by_cases o2:re.op=2
 ·rw[be o2,ap (WX o2),ap (o5' o2),ap (o4' o2)];exact Cc uu f
 rw[ap o2];by_cases o3:re.op=3
 ·rw[be o3,be o3];exact K4 uu (by have:=q2 o3;intro h;rw[h]at this;simp at this) f
 rw[ap o3,ap o3];by_cases o5:re.op=5
 ·rw[be o5,be o5];obtain⟨k,dt⟩:=List.length_eq_one_iff.1 (V3 (.inr o5));have:=uu k (by rw[dt];simp) (f+1);rw[dt];simp only[Re.En,Re.gx,ai8,ai6,ai9]
  push_cast;omega
 rw[ap o5,ap o5];by_cases o4:re.op=4
 ·rw[be o4,be o4];obtain⟨k,dt⟩:=List.length_eq_one_iff.1 (V3 (.inl o4));rw[GR dt,T8 (n:=Re.gx re.kids) (λf=>by rw[dt];have:=uu k (by rw[dt];simp) f;simp only[Re.gx];omega) _ _ _ q5 (SN o4)]
 ·rw[ap o4,ap o4,h0 (o00 o2 o3 o5 o4)];rfl
def rO (l:List Re):Re:=.mk 3 [] l 0 0 0 0 false
def jo (g:Nat) (l:List kL):VL.Obj:=⟨g,true,5,(l.map kL.cells).map λc=>c.map V.d⟩
theorem my (l:List kL):∀e∈(l.map kL.cells).map (λc=>c.map V.d),e.length=5:=by intro e he;obtain⟨c,hc,rfl⟩:=List.mem_map.1 he;obtain⟨i,_,rfl⟩:=List.mem_map.1 hc;rfl
theorem TH (l:List kL):∀e∈l.map kL.cells,e.length=5:=by intro e he;obtain⟨i,_,rfl⟩:=List.mem_map.1 he;rfl
theorem px (l:List kL) (n:Nat) (h:l.length<=n):List.take n ((l.map kL.cells).map λc=>c.map V.d)=(l.map kL.cells).map λc=>c.map V.d:=ajb (by simpa using h)
theorem Pq (n g:Nat) (l:List kL):bc n (jo g l)=true:=by unfold bc jo;rw[ajo];intro e he;obtain⟨c,hc,rfl⟩:=List.mem_map.1 he;rw[ajo];intro x hx;obtain⟨d,_,rfl⟩:=List.mem_map.1 hx;rfl
theorem PQ (n:Nat) (re:Re):bc n (aI re)=true:=by simp [bc,aI,Re.ah re,ak]
def uK (re:Re):Prop:=∀f:Int,0<=f->f<=1000000000000000000-100000000*re.size->aM prog 77 [kj re,i64 f] (.d (.sl ((re.code f).map kL.cells)))
theorem Wf (re k:Re) (hs:re.every tH=true) (hz:re.kK<=8500) (o4:re.op=4) (hk:re.kids=[k]) (hc:uK k) (f:Int) (h0:0<=f) (h1:f<=1000000000000000000-100000000*re.size):lL prog 97 [kj re,i64 f] 5 ((re.code f).map kL.cells):=by
 obtain⟨ef,fU⟩:=(Re.av re).1 hs;obtain⟨BK,An,V3,hk0⟩:=iI.1 ef;obtain⟨hb,SN⟩:=g7.1 BK;obtain⟨q1,q2,q3,q4,q5,q6,q7,q8,q9,ji⟩:=fB.1 hb;have hlen:=pH re hs ae f;have Ua:=(Ad hs ae ⟨ae,ae⟩).2 k (by rw[hk];simp);have uu:=pH k (fU k (by rw[hk];simp)) Ua;have Zr:=jr k (nD (fU k (by rw[hk];simp)));have fY:=Ol re (nD hs);have vV:re.kids[0]?=some k:=by rw[hk];rfl
 have dZ:(0:Int)<(re.kids.length:Int):=by rw[hk];simp
 have JM:k.size+1<=re.size:=Re.bN (by rw[hk];simp);have LV:re.code f=Ry k.code re.mn re.mx re.mode re.kK f:=by rw[Re.oz,bd,bd,bd,bd,bd,be o4,GR hk]
 rw[LV];have ki:∀i:Nat,((gF k.code i f).length:Int)=i*k.kK:=λi=>x7 uu i f;have O6:∀i:Nat,(i:Int)<=re.mn->((gF k.code i f).length:Int)<=300000:=λi hi=>by rw[ki];have h2:(i:Int)*k.kK<=32*9000:=Int.mul_le_mul ae Ua Zr.1 ae;omega
 unfold Ry lL;refine qV func97 rfl ntmps97 results97 rfl 0 32759 aj aj ?_;simp only[zI,simprocAttr,aq re,iD,bD,o4];refine ay (λn e s=>∃(i g:Nat),n=re.mn.toNat-i/\(i:Int)<=re.mn/\e 1=i64 f/\e 2=.rf 0 0 0 0/\e 5=.so 1 g 0 (gF k.code i f).length/\e 6=i64 i/\s=[aI re,jo g (gF k.code i f)])
  ⟨_,_,_,.MX (fQ 5 5 rfl),0,0,rfl,q5,rfl,rfl,rfl,rfl,by simp [aI,Re.ah re,iD,bD,o4,jo,gF]⟩ ?_
 rintro n e s ⟨i,g,rfl,hi,uV,h2,h5,h6,rfl⟩;by_cases aB:(i:Int)<re.mn
 ·have eD:=hc (f+(gF k.code i f).length) ae (by have:=O6 i hi;omega);have gR:=O6 i hi;have VF:=O6 (i+1) ae;have w1:IntKind.i64.wrap (f+((gF k.code i f).length:Int))=f+((gF k.code i f).length:Int):=bF _ ae;have Ye:=uu (f+(gF k.code i f).length);simp only[i64]at eD;simp only[zI,simprocAttr,aI,Re.ah re,aiZ,ai2,iD,bD,uV,h2,h5,h6,aB,jo,vV,dZ,w1];refine bp eD (by simp [ak,ak.go,aq]) eX ?_;simp only[zI,simprocAttr,aI,Re.ah re,aiZ,ai2,iD,bD,uV,h2,h5,h6,aB,jo];refine⟨my _,⟨aj,ae⟩,re.mn.toNat-(i+1),_,_,ae,bJ.refl,i+1,g+1,rfl,ae,?_,?_,?_,?_,?_⟩ <;> (try simp only[zU,gV,cy,cJ,dV,reduceIte])
  ·exact uV
  ·exact h2
  ·simp only[gF,ai6,aiW]
  ·rw[bF _ ae];rfl
  ·rw[px _ _ (ajc _)];simp [aI,jo,Re.ah re,iD,bD,gF]
 ·have dY:i=re.mn.toNat:=by omega
  subst dY;have gR:=O6 re.mn.toNat hi;generalize gF k.code re.mn.toNat f=pre at *;by_cases hm:re.mx=-1
  ·rw[be hm];have eD:=hc (f+pre.length+1) ae ae;have Ye:=uu (f+pre.length+1);have w1:IntKind.i64.wrap (f+(pre.length:Int))=f+pre.length:=bF _ ae;have w2:IntKind.i64.wrap (f+(pre.length:Int)+1)=f+pre.length+1:=bF _ ae;generalize k.code (f+pre.length+1)=aP at *;have w3:IntKind.i64.wrap (f+(pre.length:Int)+(aP.length:Int))=f+pre.length+aP.length:=bF _ ae;have w4:IntKind.i64.wrap (f+(pre.length:Int)+(aP.length:Int)+2)=f+pre.length+aP.length+2:=bF _ ae;simp only[i64]at eD;by_cases IX:re.mode=1
   ·simp only[zI,simprocAttr,aI,Re.ah re,aiZ,ai2,iD,bD,uV,h2,h5,h6,aB,jo,vV,dZ,w1,w2,hm];refine bp eD (by simp [ak,ak.go,aq]) eX ?_;simp only[zI,simprocAttr,aI,Re.ah re,aiZ,ai2,iD,bD,uV,h2,h5,h6,aB,jo,w1,w2,w3,w4,hm,IX];refine⟨λe he=>by rw[List.mem_singleton.1 he];rfl,⟨aj,ae⟩,my _,⟨aj,ae⟩,λe he=>by rw[List.mem_singleton.1 he];rfl,⟨aj,ae⟩,?_⟩;simp only[zX,simprocAttr,tY];refine nO (id:=1) aN ?_ ?_
    ·rw[px _ _ (ajc _),ajb aj,ajb aj];simp [zq,Lr,kL.cells,IX,iD]
    ·simp;omega
   ·simp only[zI,simprocAttr,aI,Re.ah re,aiZ,ai2,iD,bD,uV,h2,h5,h6,aB,jo,vV,dZ,w1,w2,hm];refine bp eD (by simp [ak,ak.go,aq]) eX ?_;simp only[zI,simprocAttr,aI,Re.ah re,aiZ,ai2,iD,bD,uV,h2,h5,h6,aB,jo,w1,w2,w3,w4,hm,IX];refine⟨λe he=>by rw[List.mem_singleton.1 he];rfl,⟨aj,ae⟩,my _,⟨aj,ae⟩,λe he=>by rw[List.mem_singleton.1 he];rfl,⟨aj,ae⟩,?_⟩;simp only[zX,simprocAttr,tY];refine nO (id:=1) aN ?_ ?_
    ·rw[px _ _ (ajc _),ajb aj,ajb aj];simp [zq,Lr,kL.cells,IX,iD]
    ·simp;omega
  ·rw[ap hm];have af5:=(SN o4).resolve_left hm;have w1:IntKind.i64.wrap (f+re.kK)=f+re.kK:=bF _ ae;have S4:∀j:Nat,((gu k.code re.mode (f+re.kK) j (f+pre.length)).length:Int)=j*(k.kK+1):=λj=>uF uu _ _ j _;have ade:∀j:Nat,(j:Int)<=32->((gu k.code re.mode (f+re.kK) j (f+pre.length)).length:Int)<=300000:=λj hj=>by rw[S4];have h2:(j:Int)*(k.kK+1)<=32*9001:=Int.mul_le_mul hj ae ae ae;omega
   simp only[zI,simprocAttr,aI,Re.ah re,aiZ,ai2,iD,bD,uV,h2,h5,h6,aB,jo,vV,dZ,hm];simp only[aq re,i64,iD,bD]at fY;refine bO fY ?_;simp only[zI,simprocAttr,aI,Re.ah re,aiZ,ai2,iD,bD,uV,h2,h5,h6,aB,jo,w1];refine ay (λn e s=>∃(j g:Nat),n=(re.mx-re.mn).toNat-j/\(j:Int)<=re.mx-re.mn/\e 1=i64 f/\e 2=.rf 0 0 0 0/\e 5=.so 1 g 0 (pre++gu k.code re.mode (f+re.kK) j (f+pre.length)).length/\e 11=i64 (f+re.kK)/\e 12=i64 (re.mn+j) /\
     s=[aI re,jo g (pre++gu k.code re.mode (f+re.kK) j (f+pre.length))])
    ⟨_,_,_,bJ.refl,0,g,rfl,ae,?_,?_,?_,rfl,?_,by simp [aI,Re.ah re,iD,bD,jo,gu]⟩ ?_ <;> (try simp only[zU,gV,cy,cJ,dV,reduceIte])
   ·exact uV
   ·exact h2
   ·rw[h5];simp [gu]
   ·simp [i64]
   clear h5 h6 uV h2 aB;rintro n e s ⟨j,g,rfl,hj,uV,h2,h5,jK,kz,rfl⟩;by_cases aB:re.mn+(j:Int)<re.mx
   ·have hb3:=ade j ae;generalize aad:gu k.code re.mode (f+re.kK) j (f+pre.length)=post at *;have ON:(f+(pre.length:Int))+(post.length:Int)+1=f+((pre++post).length:Int)+1:=cG;have DC:pre++gu k.code re.mode (f+re.kK) (j+1) (f+pre.length)=(pre++post)++zq re.mode (f+((pre++post).length:Int)+1) (f+re.kK)::k.code (f+((pre++post).length:Int)+1):=by rw[gu,aad,ON,ajq]
    have Qf:((pre++post).length:Int)=pre.length+post.length:=aj;have eD:=hc (f+(pre++post).length+1) ae ae;have Ye:=uu (f+(pre++post).length+1);have w2:IntKind.i64.wrap (f+((pre++post).length:Int))=f+(pre++post).length:=bF _ ae;have w3:IntKind.i64.wrap (f+((pre++post).length:Int)+1)=f+(pre++post).length+1:=bF _ ae;generalize k.code (f+(pre++post).length+1)=aP at *;generalize pre++post=out at *;simp only[i64]at eD;by_cases aac:re.mode=1
    ·have IX:=eq_true aac;simp only[zI,simprocAttr,aI,Re.ah re,aiZ,ai2,iD,bD,uV,h2,h5,jK,kz,aB,jo,vV,dZ,w2,w3,IX];refine⟨λe he=>by rw[List.mem_singleton.1 he];rfl,⟨aj,ae⟩,?_⟩;refine bp eD (by simp [ak,ak.go,aq]) eX ?_;simp only[zI,simprocAttr,aI,Re.ah re,aiZ,ai2,iD,bD,uV,h2,h5,jK,kz,aB,jo];refine⟨my _,⟨aj,ae⟩,(re.mx-re.mn).toNat-(j+1),_,_,ae,bJ.cut (s':=[aI re,jo (g+1+1) (out++zq re.mode (f+(out.length:Int)+1) (f+re.kK)::aP)]) 2 ae ?_ (by simp [PQ,Pq]) [1,2,5,11,12] ?_,j+1,g+1+1,rfl,ae,?_,?_,?_,?_,?_,?_⟩ <;> (try simp only[zU,gV,cy,cJ,dV,reduceIte])
     ·simp only[aj1,akc];rw[px _ _ (ajc _),ajb aj];simp [zq,kL.cells,IX,iD,jo,aI,Re.ah re,bD]
     ·simp [bX,aY,ak,uV,h2,jK,i64]
     ·exact uV
     ·exact h2
     ·rw[DC];simp;omega
     ·exact jK
     ·rw[bF _ ae];simp only[aj9,Int.natCast_one,Int.add_assoc]
     ·rw[DC];simp [jo,aI,Re.ah re,iD,bD]
    ·have IX:=aac;simp only[zI,simprocAttr,aI,Re.ah re,aiZ,ai2,iD,bD,uV,h2,h5,jK,kz,aB,jo,vV,dZ,w2,w3,IX];refine⟨λe he=>by rw[List.mem_singleton.1 he];rfl,⟨aj,ae⟩,?_⟩;refine bp eD (by simp [ak,ak.go,aq]) eX ?_;simp only[zI,simprocAttr,aI,Re.ah re,aiZ,ai2,iD,bD,uV,h2,h5,jK,kz,aB,jo];refine⟨my _,⟨aj,ae⟩,(re.mx-re.mn).toNat-(j+1),_,_,ae,bJ.cut (s':=[aI re,jo (g+1+1) (out++zq re.mode (f+(out.length:Int)+1) (f+re.kK)::aP)]) 2 ae ?_ (by simp [PQ,Pq]) [1,2,5,11,12] ?_,j+1,g+1+1,rfl,ae,?_,?_,?_,?_,?_,?_⟩ <;> (try simp only[zU,gV,cy,cJ,dV,reduceIte])
     ·simp only[aj1,akc];rw[px _ _ (ajc _),ajb aj];simp [zq,kL.cells,IX,iD,jo,aI,Re.ah re,bD]
     ·simp [bX,aY,ak,uV,h2,jK,i64]
     ·exact uV
     ·exact h2
     ·rw[DC];simp;omega
     ·exact jK
     ·rw[bF _ ae];simp only[aj9,Int.natCast_one,Int.add_assoc]
     ·rw[DC];simp [jo,aI,Re.ah re,iD,bD]
   ·have NI:j=(re.mx-re.mn).toNat:=by omega
    subst NI;simp only[zI,simprocAttr,aI,Re.ah re,aiZ,ai2,iD,bD,uV,h2,h5,jK,kz,aB,jo,tY];exact nO (id:=1) aN aN aj
end Go.Proofs.Ytfmdmlfhigocaaa
