/- A part of the proof (K2 O20 O26). -/
import Derived.Test.YtfmdmlfhigocaaaOF15
import Derived.Test.YtfmdmlfhigocaaaOF27
import Derived.Test.YtfmdmlfhigocaaaOF28
import Derived.Test.YtfmdmlfhigocaaaOF34
set_option linter.unusedSimpArgs false
set_option linter.unusedVariables false
set_option maxRecDepth 100000
set_option maxHeartbeats 80000000
namespace Go.Proofs.Ytfmdmlfhigocaaa
open Go.VL Go.Proofs.Try
def il (re:Re):Int:=min (re.fT:Int) 8193
def nt (re:Re):Bool:=decide ((re.op=4\/re.op=5\/re.op=7\/re.op=8->re.kids.length=1)/\(re.op=3->2<=re.kids.length)/\re.kids.length<=1000/\0<=re.mn/\re.mn<=32/\-1<=re.mx/\re.mx<=32/\(re.op=4->re.mx=-1\/(1<=re.mx/\re.mn<=re.mx))/\0<=re.n/\re.n<=9/\(re.op=5->1<=re.n)/\(re.op=11->re.n<=5)/\0<=re.op/\re.op<=11/\re.set.length<=1000000)
theorem kP {re:Re}:nt re=true ↔ (re.op=4\/re.op=5\/re.op=7\/re.op=8->re.kids.length=1)/\(re.op=3->2<=re.kids.length)/\re.kids.length<=1000/\0<=re.mn/\re.mn<=32/\-1<=re.mx/\re.mx<=32/\(re.op=4->re.mx=-1\/(1<=re.mx/\re.mn<=re.mx))/\0<=re.n/\re.n<=9/\(re.op=5->1<=re.n)/\(re.op=11->re.n<=5)/\0<=re.op/\re.op<=11/\re.set.length<=1000000:=by
 unfold nt;rw[decide_eq_true_eq]
theorem y6 {re:Re} (h:re.every nt=true):re.every Hf=true:=px (fun r h=>by
 obtain⟨q1,q2,q3,q4,q5,q6,q7,q8,q9,gY,_⟩:=kP.1 h
 exact oE.2 ⟨fun h=>q1 (by omega),fun h=>by have:=q2 h;omega,by omega,q4,by omega,q6,by omega,q9,by omega⟩) re h
theorem Nb {m x z:Int} (hz:0<=z) (m0:0<=m) (h:x=-1\/(1<=x/\m<=x)) :
  min (if x=-1 then m*min z 8193+(min z 8193+2) else m*min z 8193+(x-m)*(min z 8193+1)) 8193=min (if x=-1 then m*z+z+2 else m*z+(x-m)*(z+1)) 8193:=by
 by_cases hc:z<=8193
 ·rw[Int.min_eq_left hc]
  by_cases hx:x=-1
  ·rw[if_pos hx,if_pos hx,Int.add_assoc]
  ·rw[if_neg hx,if_neg hx]
 ·rw[show min z 8193=8193 by omega]
  by_cases hx:x=-1
  ·rw[if_pos hx,if_pos hx]
   have h1:0<=m*8193:=Int.mul_nonneg m0 (by omega)
   have h2:0<=m*z:=Int.mul_nonneg m0 hz
   omega
  ·rw[if_neg hx,if_neg hx]
   obtain⟨h1,h2⟩:=h.resolve_left hx
   have key:∀y:Int,8193<=y->8193<=m*y+(x-m)*(y+1):=by
    intro y hy
    have e1:0<=(x-m)*(y+1):=Int.mul_nonneg (by omega) (by omega)
    have e2:0<=m*y:=Int.mul_nonneg m0 (by omega)
    by_cases hm:1<=m
    ·have:1*y<=m*y:=Int.mul_le_mul_of_nonneg_right hm (by omega)
     omega
    ·have CG:m=0:=by omega
     subst CG
     have:1*(y+1)<=(x-0)*(y+1):=Int.mul_le_mul_of_nonneg_right (by omega) (by omega)
     omega
   have k1:=key 8193 (by omega)
   have k2:=key z (by omega)
   omega
theorem NC {re x:Re} (o:re.op=4) (hk:re.kids=[x]) (m0:0<=re.mn) (h:re.mx=-1\/(1<=re.mx/\re.mn<=re.mx)):(re.fT:Int)=if re.mx=-1 then re.mn*x.fT+x.fT+2 else re.mn*x.fT+(re.mx-re.mn)*(x.fT+1):=by
 rw[Re.nm,vv,if_neg (by omega),if_neg (by omega),if_neg (by omega),if_neg (by omega),if_pos o,hk]
 have e1:((re.mn.toNat:Nat):Int)=re.mn:=by omega
 by_cases hx:re.mx=-1
 ·rw[if_pos hx,if_pos hx]
  simp only[Re.da,Nat.add_zero]
  push_cast
  rw[e1]
  generalize re.mn*(x.fT:Int)=y
  omega
 ·rw[if_neg hx,if_neg hx]
  simp only[Re.da,Nat.add_zero]
  have e2:(((re.mx-re.mn).toNat:Nat):Int)=re.mx-re.mn:=by omega
  push_cast
  rw[e1,e2]
theorem yx (re:Re):re.every nt=true->ba Try.prog 71 [jW re] (i64 (il re)):=by
 induction re using Re.ind with
 |h re ih =>
 intro hs
 obtain⟨gX,pj⟩:=(Re.aS re).1 hs
 obtain⟨q1,q2,q3,q4,q5,q6,q7,q8,q9,gY,_,_,Gx,MH,_⟩:=kP.1 gX
 have mL:re.op=1\/re.op=11\/re.op=7\/re.op=8\/re.op=2\/re.op=3\/re.op=5\/re.op=4\/re.op=0\/re.op=6\/re.op=9\/re.op=10:=by omega
 have HZ:(re.op=1\/re.op=11\/re.op=7\/re.op=8)->il re=1:=fun h=>by rw[il,Re.nm,vv,if_pos h];rfl
 have lM:(re.op=0\/re.op=6\/re.op=9\/re.op=10)->il re=0:=fun h=>by
  rw[il,Re.nm,vv,if_neg (by omega),if_neg (by omega),if_neg (by omega),if_neg (by omega),if_neg (by omega)];rfl
 have IQ:(re.op=4\/re.op=5)->∃x,re.kids=[x]:=fun h=>List.length_eq_one_iff.1 (q1 (by omega))
 rcases mL with o|o|o|o|o|o|o|o|o|o|o|o
 case inl=>rw[HZ (by omega)];refine an Try.func71 rfl Try.ntmps71 Try.results71 rfl 0 1852271 (by simp) (by simp) ?_;simp only[zX,Nat.reduceShiftRight,Nat.reduceMod,Nat.reduceLT,Nat.reduceMul,Nat.reduceSub,Int.reduceToNat,Int.reduceNeg,Int.reduceLT,Int.reduceLE,Int.reduceEq,Nat.reduceEqDiff,Nat.reduceAdd,Nat.reduceLeDiff,reduceIte,reduceCtorEq,Nat.reduceBEq,i64,aj re,iD,bD,o]
 case inr.inl=>rw[HZ (by omega)];refine an Try.func71 rfl Try.ntmps71 Try.results71 rfl 0 1852271 (by simp) (by simp) ?_;simp only[zX,Nat.reduceShiftRight,Nat.reduceMod,Nat.reduceLT,Nat.reduceMul,Nat.reduceSub,Int.reduceToNat,Int.reduceNeg,Int.reduceLT,Int.reduceLE,Int.reduceEq,Nat.reduceEqDiff,Nat.reduceAdd,Nat.reduceLeDiff,reduceIte,reduceCtorEq,Nat.reduceBEq,i64,aj re,iD,bD,o]
 case inr.inr.inl=>rw[HZ (by omega)];refine an Try.func71 rfl Try.ntmps71 Try.results71 rfl 0 1852271 (by simp) (by simp) ?_;simp only[zX,Nat.reduceShiftRight,Nat.reduceMod,Nat.reduceLT,Nat.reduceMul,Nat.reduceSub,Int.reduceToNat,Int.reduceNeg,Int.reduceLT,Int.reduceLE,Int.reduceEq,Nat.reduceEqDiff,Nat.reduceAdd,Nat.reduceLeDiff,reduceIte,reduceCtorEq,Nat.reduceBEq,i64,aj re,iD,bD,o]
 case inr.inr.inr.inl=>rw[HZ (by omega)];refine an Try.func71 rfl Try.ntmps71 Try.results71 rfl 0 1852271 (by simp) (by simp) ?_;simp only[zX,Nat.reduceShiftRight,Nat.reduceMod,Nat.reduceLT,Nat.reduceMul,Nat.reduceSub,Int.reduceToNat,Int.reduceNeg,Int.reduceLT,Int.reduceLE,Int.reduceEq,Nat.reduceEqDiff,Nat.reduceAdd,Nat.reduceLeDiff,reduceIte,reduceCtorEq,Nat.reduceBEq,i64,aj re,iD,bD,o]
 case inr.inr.inr.inr.inl =>
  have hz:il re=min (min (Re.da re.kids:Int) 8193) 8193:=by
   rw[il,Re.nm,vv,if_neg (by omega),if_pos o];omega
  refine an Try.func71 rfl Try.ntmps71 Try.results71 rfl 0 1852271 (by simp) (by simp) ?_
  simp only[zX,Nat.reduceShiftRight,Nat.reduceMod,Nat.reduceLT,Nat.reduceMul,Nat.reduceSub,Int.reduceToNat,Int.reduceNeg,Int.reduceLT,Int.reduceLE,Int.reduceEq,Nat.reduceEqDiff,Nat.reduceAdd,Nat.reduceLeDiff,reduceIte,reduceCtorEq,Nat.reduceBEq,i64,aj re,iD,bD,o]
  refine ay (fun n e s=>∃i:Nat,n=re.kids.length-i/\i<=re.kids.length/\e 1=.rf 0 0 0 0/\e 3=i64 (min (Re.da (re.kids.take i):Int) 8193)/\e 18=.d (.sl (re.kids.map Re.cells))/\e 19=i64 re.kids.length/\e 20=i64 i/\s=[aF re]) ⟨_,_,_,bI.refl,0,rfl,by omega,rfl,rfl,rfl,rfl,rfl,by simp [aF,Re.ae re,iD,bD,o]⟩ ?_
  rintro n e s ⟨i,rfl,hi,h1,h3,iV,js,lE,rfl⟩
  rcases Nat.lt_or_ge i re.kids.length with az|ib
  ·obtain⟨k,hk⟩:∃k,re.kids[i]?=some k:=⟨_,List.getElem?_eq_getElem az⟩
   have hm:=List.mem_of_getElem? hk
   have aK:(i:Int)<(re.kids.length:Int):=by omega
   have hi0:(0:Int)<=(i:Int):=by omega
   have F4:Re.da (re.kids.take (i+1))=Re.da (re.kids.take i)+k.fT:=by rw[bt hk,fF];simp [Re.da]
   have ew:=ih k hm (pj k hm)
   unfold il at ew
   simp only[i64]at ew
   have Ml:min (min (Re.da (re.kids.take i):Int) 8193+min (k.fT:Int) 8193) 8193=min (Re.da (re.kids.take (i+1)):Int) 8193:=by omega
   have w1:IntKind.i64.wrap (min (Re.da (re.kids.take i):Int) 8193+min (k.fT:Int) 8193)=min (Re.da (re.kids.take i):Int) 8193+min (k.fT:Int) 8193:=br _ (by omega)
   simp only[zX,Nat.reduceShiftRight,Nat.reduceMod,Nat.reduceLT,Nat.reduceMul,Nat.reduceSub,Int.reduceToNat,Int.reduceNeg,Int.reduceLT,Int.reduceLE,Int.reduceEq,Nat.reduceEqDiff,Nat.reduceAdd,Nat.reduceLeDiff,reduceIte,reduceCtorEq,Nat.reduceBEq,aF,Re.ae re,List.map_cons,List.map_nil,iD,bD,h1,h3,iV,js,lE,i64,aK,hi0,az,hk,List.length_map,List.getElem?_map,Option.map_some,Int.toNat_natCast]
   refine al ew (by simp [ah,ah.go,aj,i64,bV,bm]) (by simp [ah,ah.go,aj,i64,bV,bm]) ?_
   simp only[zX,Nat.reduceShiftRight,Nat.reduceMod,Nat.reduceLT,Nat.reduceMul,Nat.reduceSub,Int.reduceToNat,Int.reduceNeg,Int.reduceLT,Int.reduceLE,Int.reduceEq,Nat.reduceEqDiff,Nat.reduceAdd,Nat.reduceLeDiff,reduceIte,reduceCtorEq,Nat.reduceBEq,aF,Re.ae re,List.map_cons,List.map_nil,iD,bD,h1,h3,iV,js,lE,i64,w1,Ml]
   refine⟨re.kids.length-(i+1),_,_,by omega,bI.cut (s':=[aF re]) 1 (by omega) (by simp [aF,Re.ae re,iD,bD]) (by simp [aF,aQ,Re.ae re,ah]) [1,3,18,19,20] (by simp [bB,aL,ah,h1,h3,iV,js,lE,i64]),i+1,rfl,az,?_,?_,?_,?_,?_,by simp [aF,Re.ae re,iD,bD]⟩ <;> (try simp only[zU,Nat.reduceBEq,Nat.reduceShiftRight,Nat.reduceMod,Nat.reduceEqDiff,reduceIte])
   ·exact h1
   ·exact iV
   ·exact js
   ·rw[br _ (by omega)];rfl
  ·have eQ:i=re.kids.length:=by omega
   subst eQ
   rw[List.take_length]at h3
   rw[hz]
   simp only[zX,Nat.reduceShiftRight,Nat.reduceMod,Nat.reduceLT,Nat.reduceMul,Nat.reduceSub,Int.reduceToNat,Int.reduceNeg,Int.reduceLT,Int.reduceLE,Int.reduceEq,Nat.reduceEqDiff,Nat.reduceAdd,Nat.reduceLeDiff,reduceIte,reduceCtorEq,Nat.reduceBEq,aF,Re.ae re,List.map_cons,List.map_nil,iD,bD,h1,h3,iV,js,lE,i64,o,Int.lt_irrefl]
 case inr.inr.inr.inr.inr.inl =>
  have hz:il re=min (min (Re.da re.kids:Int) 8193+2*((re.kids.length:Int)-1)) 8193:=by
   have:=q2 o
   rw[il,Re.nm,vv,if_neg (by omega),if_neg (by omega),if_pos o];omega
  refine an Try.func71 rfl Try.ntmps71 Try.results71 rfl 0 1852271 (by simp) (by simp) ?_
  simp only[zX,Nat.reduceShiftRight,Nat.reduceMod,Nat.reduceLT,Nat.reduceMul,Nat.reduceSub,Int.reduceToNat,Int.reduceNeg,Int.reduceLT,Int.reduceLE,Int.reduceEq,Nat.reduceEqDiff,Nat.reduceAdd,Nat.reduceLeDiff,reduceIte,reduceCtorEq,Nat.reduceBEq,i64,aj re,iD,bD,o]
  refine ay (fun n e s=>∃i:Nat,n=re.kids.length-i/\i<=re.kids.length/\e 1=.rf 0 0 0 0/\e 3=i64 (min (Re.da (re.kids.take i):Int) 8193)/\e 18=.d (.sl (re.kids.map Re.cells))/\e 19=i64 re.kids.length/\e 20=i64 i/\s=[aF re]) ⟨_,_,_,bI.refl,0,rfl,by omega,rfl,rfl,rfl,rfl,rfl,by simp [aF,Re.ae re,iD,bD,o]⟩ ?_
  rintro n e s ⟨i,rfl,hi,h1,h3,iV,js,lE,rfl⟩
  rcases Nat.lt_or_ge i re.kids.length with az|ib
  ·obtain⟨k,hk⟩:∃k,re.kids[i]?=some k:=⟨_,List.getElem?_eq_getElem az⟩
   have hm:=List.mem_of_getElem? hk
   have aK:(i:Int)<(re.kids.length:Int):=by omega
   have hi0:(0:Int)<=(i:Int):=by omega
   have F4:Re.da (re.kids.take (i+1))=Re.da (re.kids.take i)+k.fT:=by rw[bt hk,fF];simp [Re.da]
   have ew:=ih k hm (pj k hm)
   unfold il at ew
   simp only[i64]at ew
   have Ml:min (min (Re.da (re.kids.take i):Int) 8193+min (k.fT:Int) 8193) 8193=min (Re.da (re.kids.take (i+1)):Int) 8193:=by omega
   have w1:IntKind.i64.wrap (min (Re.da (re.kids.take i):Int) 8193+min (k.fT:Int) 8193)=min (Re.da (re.kids.take i):Int) 8193+min (k.fT:Int) 8193:=br _ (by omega)
   simp only[zX,Nat.reduceShiftRight,Nat.reduceMod,Nat.reduceLT,Nat.reduceMul,Nat.reduceSub,Int.reduceToNat,Int.reduceNeg,Int.reduceLT,Int.reduceLE,Int.reduceEq,Nat.reduceEqDiff,Nat.reduceAdd,Nat.reduceLeDiff,reduceIte,reduceCtorEq,Nat.reduceBEq,aF,Re.ae re,List.map_cons,List.map_nil,iD,bD,h1,h3,iV,js,lE,i64,aK,hi0,az,hk,List.length_map,List.getElem?_map,Option.map_some,Int.toNat_natCast]
   refine al ew (by simp [ah,ah.go,aj,i64,bV,bm]) (by simp [ah,ah.go,aj,i64,bV,bm]) ?_
   simp only[zX,Nat.reduceShiftRight,Nat.reduceMod,Nat.reduceLT,Nat.reduceMul,Nat.reduceSub,Int.reduceToNat,Int.reduceNeg,Int.reduceLT,Int.reduceLE,Int.reduceEq,Nat.reduceEqDiff,Nat.reduceAdd,Nat.reduceLeDiff,reduceIte,reduceCtorEq,Nat.reduceBEq,aF,Re.ae re,List.map_cons,List.map_nil,iD,bD,h1,h3,iV,js,lE,i64,w1,Ml]
   refine⟨re.kids.length-(i+1),_,_,by omega,bI.cut (s':=[aF re]) 1 (by omega) (by simp [aF,Re.ae re,iD,bD]) (by simp [aF,aQ,Re.ae re,ah]) [1,3,18,19,20] (by simp [bB,aL,ah,h1,h3,iV,js,lE,i64]),i+1,rfl,az,?_,?_,?_,?_,?_,by simp [aF,Re.ae re,iD,bD]⟩ <;> (try simp only[zU,Nat.reduceBEq,Nat.reduceShiftRight,Nat.reduceMod,Nat.reduceEqDiff,reduceIte])
   ·exact h1
   ·exact iV
   ·exact js
   ·rw[br _ (by omega)];rfl
  ·have eQ:i=re.kids.length:=by omega
   subst eQ
   rw[List.take_length]at h3
   rw[hz]
   have w1:IntKind.i64.wrap ((re.kids.length:Int)-1)=(re.kids.length:Int)-1:=br _ (by omega)
   have w2:IntKind.i64.wrap (2*((re.kids.length:Int)-1))=2*((re.kids.length:Int)-1):=br _ (by omega)
   have w3:IntKind.i64.wrap (min (Re.da re.kids:Int) 8193+2*((re.kids.length:Int)-1))=min (Re.da re.kids:Int) 8193+2*((re.kids.length:Int)-1):=br _ (by omega)
   simp only[zX,Nat.reduceShiftRight,Nat.reduceMod,Nat.reduceLT,Nat.reduceMul,Nat.reduceSub,Int.reduceToNat,Int.reduceNeg,Int.reduceLT,Int.reduceLE,Int.reduceEq,Nat.reduceEqDiff,Nat.reduceAdd,Nat.reduceLeDiff,reduceIte,reduceCtorEq,Nat.reduceBEq,aF,Re.ae re,List.map_cons,List.map_nil,iD,bD,h1,h3,iV,js,lE,i64,o,Int.lt_irrefl,List.length_map,w1,w2,w3]
 case inr.inr.inr.inr.inr.inr.inl =>
  obtain⟨x,hx⟩:=IQ (.inr o)
  have hz:il re=min (min (x.fT:Int) 8193+2) 8193:=by
   rw[il,Re.nm,vv,if_neg (by omega),if_neg (by omega),if_neg (by omega),if_pos o,hx];simp only[Re.da];omega
  rw[hz]
  have ew:=ih x (by rw[hx];simp) (pj x (by rw[hx];simp))
  unfold il at ew
  simp only[i64]at ew
  have HH:re.kids[0]?=some x:=by rw[hx];rfl
  have eN:(0:Int)<(re.kids.length:Int):=by rw[hx];simp
  have w1:IntKind.i64.wrap (min (x.fT:Int) 8193+2)=min (x.fT:Int) 8193+2:=br _ (by omega)
  refine an Try.func71 rfl Try.ntmps71 Try.results71 rfl 0 1852271 (by simp) (by simp) ?_
  simp only[zX,Nat.reduceShiftRight,Nat.reduceMod,Nat.reduceLT,Nat.reduceMul,Nat.reduceSub,Int.reduceToNat,Int.reduceNeg,Int.reduceLT,Int.reduceLE,Int.reduceEq,Nat.reduceEqDiff,Nat.reduceAdd,Nat.reduceLeDiff,reduceIte,reduceCtorEq,Nat.reduceBEq,i64,aj re,iD,bD,o,List.length_map,eN,HH]
  refine al ew (by simp [ah,ah.go,aj,i64,bV,bm]) (by simp [ah,ah.go,aj,i64,bV,bm]) ?_
  simp only[zX,Nat.reduceShiftRight,Nat.reduceMod,Nat.reduceLT,Nat.reduceMul,Nat.reduceSub,Int.reduceToNat,Int.reduceNeg,Int.reduceLT,Int.reduceLE,Int.reduceEq,Nat.reduceEqDiff,Nat.reduceAdd,Nat.reduceLeDiff,reduceIte,reduceCtorEq,Nat.reduceBEq,i64,aj re,iD,bD,o,w1]
 case inr.inr.inr.inr.inr.inr.inr.inl =>
  obtain⟨x,hx⟩:=IQ (.inl o)
  have hz:=Nb (m:=re.mn) (x:=re.mx) (z:=x.fT) (by omega) q4 (q8 o)
  rw[<- NC o hx q4 (q8 o)]at hz
  have ew:=ih x (by rw[hx];simp) (pj x (by rw[hx];simp))
  have HH:re.kids[0]?=some x:=by rw[hx];rfl
  have eN:(0:Int)<(re.kids.length:Int):=by rw[hx];simp
  unfold il at ew ⊢
  rw[<- hz]
  have Te:0<=min (x.fT:Int) 8193:=by omega
  have W8:min (x.fT:Int) 8193<=8193:=by omega
  generalize min (x.fT:Int) 8193=y at *
  simp only[i64]at ew
  have e1:0<=re.mn*y/\re.mn*y<=32*y:=⟨Int.mul_nonneg q4 Te,Int.mul_le_mul_of_nonneg_right q5 Te⟩
  have w1:IntKind.i64.wrap (re.mn*y)=re.mn*y:=br _ (by omega)
  by_cases hm:re.mx=-1
  ·have w2:IntKind.i64.wrap (y+2)=y+2:=br _ (by omega)
   have w3:IntKind.i64.wrap (re.mn*y+(y+2))=re.mn*y+(y+2):=br _ (by omega)
   rw[if_pos hm]
   have ud:decide (re.mx=-1)=true:=decide_eq_true hm
   refine an Try.func71 rfl Try.ntmps71 Try.results71 rfl 0 1852271 (by simp) (by simp) ?_
   simp only[zX,Nat.reduceShiftRight,Nat.reduceMod,Nat.reduceLT,Nat.reduceMul,Nat.reduceSub,Int.reduceToNat,Int.reduceNeg,Int.reduceLT,Int.reduceLE,Int.reduceEq,Nat.reduceEqDiff,Nat.reduceAdd,Nat.reduceLeDiff,reduceIte,reduceCtorEq,Nat.reduceBEq,i64,aj re,iD,bD,o,List.length_map,eN,HH]
   refine al ew (by simp [ah,ah.go,aj,i64,bV,bm]) (by simp [ah,ah.go,aj,i64,bV,bm]) ?_
   simp only[zX,Nat.reduceShiftRight,Nat.reduceMod,Nat.reduceLT,Nat.reduceMul,Nat.reduceSub,Int.reduceToNat,Int.reduceNeg,Int.reduceLT,Int.reduceLE,Int.reduceEq,Nat.reduceEqDiff,Nat.reduceAdd,Nat.reduceLeDiff,reduceIte,reduceCtorEq,Nat.reduceBEq,i64,aj re,iD,bD,o,ud,w1,w2,w3]
  ·have e2:0<=(re.mx-re.mn)*(y+1)/\(re.mx-re.mn)*(y+1)<=32*(y+1):=by
    obtain⟨h1,h2⟩:=(q8 o).resolve_left hm
    exact⟨Int.mul_nonneg (by omega) (by omega),Int.mul_le_mul_of_nonneg_right (by omega) (by omega)⟩
   have w2:IntKind.i64.wrap (y+1)=y+1:=br _ (by omega)
   have w3:IntKind.i64.wrap (re.mx-re.mn)=re.mx-re.mn:=br _ (by omega)
   have w4:IntKind.i64.wrap ((re.mx-re.mn)*(y+1))=(re.mx-re.mn)*(y+1):=br _ (by omega)
   have w5:IntKind.i64.wrap (re.mn*y+(re.mx-re.mn)*(y+1))=re.mn*y+(re.mx-re.mn)*(y+1):=br _ (by omega)
   rw[if_neg hm]
   have ud:decide (re.mx=-1)=false:=decide_eq_false hm
   refine an Try.func71 rfl Try.ntmps71 Try.results71 rfl 0 1852271 (by simp) (by simp) ?_
   simp only[zX,Nat.reduceShiftRight,Nat.reduceMod,Nat.reduceLT,Nat.reduceMul,Nat.reduceSub,Int.reduceToNat,Int.reduceNeg,Int.reduceLT,Int.reduceLE,Int.reduceEq,Nat.reduceEqDiff,Nat.reduceAdd,Nat.reduceLeDiff,reduceIte,reduceCtorEq,Nat.reduceBEq,i64,aj re,iD,bD,o,List.length_map,eN,HH]
   refine al ew (by simp [ah,ah.go,aj,i64,bV,bm]) (by simp [ah,ah.go,aj,i64,bV,bm]) ?_
   simp only[zX,Nat.reduceShiftRight,Nat.reduceMod,Nat.reduceLT,Nat.reduceMul,Nat.reduceSub,Int.reduceToNat,Int.reduceNeg,Int.reduceLT,Int.reduceLE,Int.reduceEq,Nat.reduceEqDiff,Nat.reduceAdd,Nat.reduceLeDiff,reduceIte,reduceCtorEq,Nat.reduceBEq,i64,aj re,iD,bD,o,ud,w1,w2,w3,w4,w5]
 all_goals rw[lM (by omega)]
 all_goals
  refine an Try.func71 rfl Try.ntmps71 Try.results71 rfl 0 1852271 (by simp) (by simp) ?_
  simp only[zX,Nat.reduceShiftRight,Nat.reduceMod,Nat.reduceLT,Nat.reduceMul,Nat.reduceSub,Int.reduceToNat,Int.reduceNeg,Int.reduceLT,Int.reduceLE,Int.reduceEq,Nat.reduceEqDiff,Nat.reduceAdd,Nat.reduceLeDiff,reduceIte,reduceCtorEq,Nat.reduceBEq,i64,aj re,iD,bD,o]
  rfl
def Lf (R:Nat->Prop) (i:av):Prop:=(0<=i.op/\i.op<=5)/\(i.op=1->∃re k,i.node=some (re,k)/\re.op=1/\re.set.length<=1000000) /\
 (i.op=5->∃re k,i.node=some (re,k)/\re.op≠1/\(re.op=11->0<=re.n/\re.n<=5)/\(re.op≠11->R k))
def CK (B:Nat) (i:av):Prop:=0<=i.x/\i.x<=B/\0<=i.y/\i.y<=B
def CP (R:Nat->Prop) (C:List av):Prop:=(∀i∈C,Lf R i)/\∀i∈C,CK C.length i
theorem CK.mono {B B':Nat} (h:B<=B') {i:av} (k:CK B i):CK B' i:=⟨k.1,Int.le_trans k.2.1 (by omega),k.2.2.1,Int.le_trans k.2.2.2 (by omega)⟩
theorem CP.add {R:Nat->Prop}{C:List av} (h:CP R C) {i:av} (hp:Lf R i) (hq:CK (C.length+1) i):CP R (C++[i]):=by
 refine⟨fun j hj=>?_,fun j hj=>?_⟩
 ·rcases List.mem_append.1 hj with hj|hj
  ·exact h.1 j hj
  ·rw[List.mem_singleton.1 hj];exact hp
 ·rw[List.length_append,List.length_singleton]
  rcases List.mem_append.1 hj with hj|hj
  ·exact(h.2 j hj).mono (by omega)
  ·rw[List.mem_singleton.1 hj];exact hq
theorem CP.xy {R:Nat->Prop}{C:List av} (h:CP R C) {c:Nat}{x y:Int} (hx:0<=x/\x<=C.length) (hy:0<=y/\y<=C.length):CP R (u7 C c x y):=by
 refine⟨fun j hj=>?_,fun j hj=>?_⟩
 ·unfold u7 at hj
  by_cases hc:c<C.length
  ·rcases List.mem_or_eq_of_mem_set hj with hj|rfl
   ·exact h.1 j hj
   ·have hm:db C c∈C:=by unfold db;rw[List.getD_eq_getElem?_getD,List.getElem?_eq_getElem hc];exact List.getElem_mem hc
    have h0:=h.1 _ hm
    exact h0
  ·have Xm:j∈C:=by rw[List.set_eq_of_length_le (by omega)]at hj;exact hj
   exact h.1 j Xm
 ·rw[lq]
  unfold u7 at hj
  rcases List.mem_or_eq_of_mem_set hj with hj|rfl
  ·exact h.2 j hj
  ·exact⟨hx.1,hx.2,hy.1,hy.2⟩
theorem Sx {R:Nat->Prop}{C:List av} (h:CP R C) (c:Nat):0<=(db C c).y/\(db C c).y<=C.length:=by
 by_cases hc:c<C.length
 ·have hm:db C c∈C:=by unfold db;rw[List.getD_eq_getElem?_getD,List.getElem?_eq_getElem hc];exact List.getElem_mem hc
  exact(h.2 _ hm).2.2
 ·have:db C c=⟨0,0,0,0,none⟩:=by unfold db;rw[List.getD_eq_getElem?_getD,List.getElem?_eq_none (by omega)];rfl
  rw[this];simp
theorem CP.xs {R:Nat->Prop}:∀(J:List Nat) {C:List av}{E:Nat},CP R C->C.length=E->CP R (J.foldl (xO E) C)
 |[],_,_,h,_=>h
 |c::J,C,E,h,hE=>by
  rw[List.foldl_cons]
  refine CP.xs J ?_ (by rw[GR];exact hE)
  exact h.xy ⟨by omega,by omega⟩ (Sx h c)
theorem CP.Gs {R:Nat->Prop} (mode:Int):∀(J:List Nat) {C:List av},CP R C->(∀c∈J,c<C.length)->CP R (J.foldl (nz mode) C)
 |[],_,h,_=>h
 |c::J,C,h,hJ=>by
  rw[List.foldl_cons]
  have hc:=hJ c (by simp)
  refine CP.Gs mode J ?_ (fun d hd=>by rw[Dh];exact hJ d (by simp [hd]))
  unfold nz
  split
  ·exact h.xy ⟨by omega,by omega⟩ ⟨by omega,by omega⟩
  ·exact h.xy ⟨by omega,by omega⟩ ⟨by omega,by omega⟩
theorem yU {R:Nat->Prop} (x y:Int):Lf R (dS x y):=⟨by simp [dS],fun h=>absurd h (by simp [dS]),fun h=>absurd h (by simp [dS])⟩
theorem EB {R:Nat->Prop} (x:Int):Lf R (jN x):=⟨by simp [jN],fun h=>absurd h (by simp [jN]),fun h=>absurd h (by simp [jN])⟩
theorem Fj {R:Nat->Prop} (x:Int):Lf R (gy x):=⟨by simp [gy],fun h=>absurd h (by simp [gy]),fun h=>absurd h (by simp [gy])⟩
theorem CP.iter {R:Nat->Prop}{f:List av->List av} (hf:∀C,CP R C->CP R (f C)):∀n C,CP R C->CP R (gu f n C)
 |0,_,h=>h
 |n+1,C,h=>hf _ (CP.iter hf n C h)
theorem Nu (R:Nat->Prop) (re:Re):re.every nt=true->∀k,(∀j,k<=j->j<k+re.looks->R j)->∀C,CP R C->CP R (re.emit k C):=by
 refine Re.ind (Q:=fun re=>re.every nt=true->∀k,(∀j,k<=j->j<k+re.looks->R j)->∀C,CP R C->CP R (re.emit k C)) (fun re ih hs k hR C hC=>?_) re
 obtain⟨gX,pj⟩:=(Re.aS re).1 hs
 obtain⟨q1,q2,q3,q4,q5,q6,q7,q8,q9,gY,lJ,zp,Gx,MH,Yw⟩:=kP.1 gX
 have q0:∀{n:Nat},CK (n+1) (dS 0 0):=fun {n}=>⟨by simp [dS],by simp [dS];omega,by simp [dS],by simp [dS];omega⟩
 rw[Re.jE]
 by_cases o1:re.op=1
 ·rw[if_pos o1]
  exact hC.add ⟨by simp [sQ],fun _=>⟨re,k,rfl,o1,Yw⟩,fun h=>absurd h (by simp [sQ])⟩ ⟨by simp [sQ],by simp [sQ];omega,by simp [sQ],by simp [sQ];omega⟩
 rw[if_neg o1]
 by_cases o7:re.op=11\/re.op=7\/re.op=8
 ·rw[if_pos o7]
  refine hC.add ⟨by simp [mq],fun h=>absurd h (by simp [mq]),fun _=>⟨re,k,rfl,o1,fun h=>⟨q9,zp h⟩,fun h=>hR k (Nat.le_refl _) ?_⟩⟩ ⟨by simp [mq],by simp [mq];omega,by simp [mq],by simp [mq];omega⟩
  rw[Re.iu,if_pos (o7.resolve_left h)]
  omega
 rw[if_neg o7]
 have Ew:re.looks=Re.aN re.kids:=by rw[Re.iu,if_neg (by omega),Nat.zero_add]
 rw[Ew]at hR
 have hL:∀(l:List Re) (k:Nat) (C:List av),(∀x∈l,x∈re.kids)->(∀j,k<=j->j<k+Re.aN l->R j)->CP R C->CP R (Re.dc l k C):=by
  intro l
  induction l with
  |nil=>intro k C _ _ h;exact h
  |cons x l IK =>
   intro k C hm hR h
   rw[Re.aN]at hR
   rw[Re.dc]
   exact IK _ _ (fun y hy=>hm y (by simp [hy])) (fun j h1 h2=>hR j (by omega) (by omega)) (ih x (hm x (by simp)) (pj x (hm x (by simp))) k (fun j h1 h2=>hR j h1 (by omega)) C h)
 by_cases o2:re.op=2
 ·rw[if_pos o2]
  exact hL _ _ _ (fun _ h=>h) hR hC
 rw[if_neg o2]
 by_cases o3:re.op=3
 ·rw[if_pos o3]
  have hA:∀(l:List Re) (k:Nat) (C:List av) (J:List Nat),(∀x∈l,x∈re.kids)->(∀j,k<=j->j<k+Re.aN l->R j)->CP R C->CP R (Re.mg l k C J):=by
   intro l
   induction l with
   |nil=>intro k C J _ _ h;exact h
   |cons x l IK =>
    intro k C J hm hR h
    rw[Re.aN]at hR
    have hx:=fun C h=>ih x (hm x (by simp)) (pj x (hm x (by simp))) k (fun j h1 h2=>hR j h1 (by omega)) C h
    cases l with
    |nil =>
     rw[Re.mg]
     exact CP.xs J (hx C h) rfl
    |cons y l =>
     rw[Re.mg]
     have h2:=hx _ (h.add (yU 0 0) q0)
     have AE:=Re.eY x k (C++[dS 0 0])
     rw[List.length_append,List.length_singleton]at AE
     generalize x.emit k (C++[dS 0 0])=D at *
     have h3:CP R (D++[jN 0]):=h2.add (EB 0) ⟨by simp [jN],by simp [jN];omega,by simp [jN],by simp [jN];omega⟩
     refine IK _ _ _ (fun z hz=>hm z (by simp only[List.mem_cons]at hz ⊢;exact .inr hz)) (fun j h1 h2=>hR j (by omega) (by omega)) (h3.xy ?_ ?_)
     ·rw[List.length_append,List.length_singleton];exact⟨by omega,by omega⟩
     ·rw[List.length_append,List.length_singleton];exact⟨by omega,by omega⟩
   done
  exact hA _ _ _ _ (fun _ h=>h) hR hC
 rw[if_neg o3]
 by_cases o5:re.op=5
 ·rw[if_pos o5]
  exact(hL _ _ _ (fun _ h=>h) hR (hC.add (Fj _) ⟨by simp [gy],by simp [gy];omega,by simp [gy],by simp [gy];omega⟩)).add (Fj _) ⟨by simp [gy],by simp [gy];omega,by simp [gy],by simp [gy];omega⟩
 rw[if_neg o5]
 by_cases o4:re.op=4
 ·rw[if_pos o4]
  have hf:∀C,CP R C->CP R (Re.dc re.kids k C):=fun C h=>hL _ _ _ (fun _ h=>h) hR h
  have JU:∀C,(Re.dc re.kids k C).length=C.length+Re.da re.kids:=fun C=>Re.rn _ _ _
  have h1:=CP.iter hf re.mn.toNat C hC
  unfold kX
  simp only
  generalize gu (fun C=>Re.dc re.kids k C) re.mn.toNat C=C1 at *
  split
  ·have h2:=hf _ (h1.add (yU 0 0) q0)
   have AE:=JU (C1++[dS 0 0])
   rw[List.length_append,List.length_singleton]at AE
   generalize Re.dc re.kids k (C1++[dS 0 0])=D at *
   refine CP.Gs _ _ (h2.add (EB _) ⟨by simp [jN],by simp [jN];omega,by simp [jN],by simp [jN];omega⟩) (fun c hc=>?_)
   rw[List.mem_singleton]at hc
   rw[List.length_append,List.length_singleton]
   omega
  ·have h2:CP R (iO (fun C=>Re.dc re.kids k C) (re.mx-re.mn).toNat C1).1:=by
    have:∀n,CP R (iO (fun C=>Re.dc re.kids k C) n C1).1:=by
     intro n
     induction n with
     |zero=>exact h1
     |succ n Qu=>exact hf _ (Qu.add (yU 0 0) q0)
    exact this _
   refine CP.Gs _ _ h2 (fun c hc=>?_)
   have:∀n,∀c∈(iO (fun C=>Re.dc re.kids k C) n C1).2,c<(iO (fun C=>Re.dc re.kids k C) n C1).1.length:=by
    intro n
    induction n with
    |zero=>intro c hc;simp [iO]at hc
    |succ n Qu =>
     intro c hc
     simp only[iO,List.mem_append,List.mem_singleton]at hc
     simp only[iO,JU,List.length_append,List.length_singleton]
     rcases hc with hc|rfl
     ·have:=Qu c hc;omega
     ·omega
   exact this _ c hc
 rw[if_neg o4]
 exact hC
end Go.Proofs.Ytfmdmlfhigocaaa
