/- A part of the proof (F41 F32 F33 F43 F44 F46). -/
import Derived.Test.YtfmdmlfhigocaaaOF13
import Derived.Test.YtfmdmlfhigocaaaOF14
import Derived.Test.YtfmdmlfhigocaaaOF21
import Derived.Test.YtfmdmlfhigocaaaOF25
import Derived.Test.YtfmdmlfhigocaaaOF27
import Derived.Test.YtfmdmlfhigocaaaOF39
set_option linter.unusedSimpArgs false
set_option linter.unusedVariables false
set_option maxRecDepth 100000
set_option maxHeartbeats 80000000
set_option linter.unusedSimpArgs false
set_option linter.unusedVariables false
namespace Go.Proofs.Ytfmdmlfhigocaaa
open Go.VL Go.Proofs.Try
end Go.Proofs.Ytfmdmlfhigocaaa
namespace Go.Proofs.Ytfmdmlfhigocaaa
open Go.VL Go.Proofs.Try
end Go.Proofs.Ytfmdmlfhigocaaa
namespace Go.Proofs.Ytfmdmlfhigocaaa
open Go.VL Go.Proofs.Try
def Cy (p:jl):List D:=p.re.cells++[iD p.ai,bD p.aU]
theorem gk (p:jl):Cy p=[iD p.re.op,.sl (p.re.set.map aV),.sl (p.re.kids.map Re.cells),iD p.re.mn,iD p.re.mx,iD p.re.mode,iD p.re.n,bD p.re.neg,iD p.ai,bD p.aU]:=by
 unfold Cy;rw[Re.ae];rfl
theorem Ma (b:Bool):ba prog 66 [bV b] (i64 (fB b)):=by
 refine an func66 rfl ntmps66 results66 rfl 0 5 (by simp) (by simp) ?_
 cases b
 ·simp only[zX,simprocAttr,i64,bV,fB,Bool.false_eq_true]
 ·simp only[zX,simprocAttr,i64,bV,fB]
def BF (re:Re):Bool:=decide (0<=re.mn/\re.mn<=32/\0<=re.mode/\re.mode<=2/\(re.mx=-1\/(1<=re.mx/\re.mx<=32/\re.mn<=re.mx)))
theorem Gz (re:Re):ba prog 93 [bm re] (bV (BF re)):=by
 refine an func93 rfl ntmps93 results93 rfl 0 5 (by simp) (by simp) ?_
 simp only[zX,simprocAttr,i64,bm,Re.ae re,iD,bD]
 repeat' (first
 |(with_reducible refine And.intro (by first|omega|exact⟨by omega,by omega⟩|(simp;done)) ?_)
 |(with_reducible refine jc (fun hc=>?_) (fun hc=>?_) <;> simp only[zX,simprocAttr,i64,iD,bD,hc])
 |(with_reducible refine dj (fun hc=>?_) (fun hc=>?_) <;> simp only[zX,simprocAttr,i64,iD,bD,hc])
 |(with_reducible refine di (fun hc=>?_) (fun hc=>?_) <;> simp only[zX,simprocAttr,i64,iD,bD,hc])
 |(with_reducible refine cF (fun hc=>?_) (fun hc=>?_) <;> simp only[zX,simprocAttr,i64,iD,bD,hc])
 |(with_reducible refine cE (fun hc=>?_) (fun hc=>?_) <;> simp only[zX,simprocAttr,i64,iD,bD,hc])
 |(with_reducible refine fL (fun hc=>?_) (fun hc=>?_) <;> simp only[zX,simprocAttr,i64,iD,bD,hc])
 |(with_reducible refine df (fun hc=>?_) (fun hc=>?_) <;> simp only[zX,simprocAttr,i64,iD,bD,hc]))
 any_goals
  refine ar mix [] [] (by rfl) ?_
  simp only[zX,simprocAttr,i64,iD,bD]
 any_goals
  repeat' (first
 |(with_reducible refine And.intro (by first|omega|exact⟨by omega,by omega⟩|(simp;done)) ?_)
 |(with_reducible refine jc (fun hc=>?_) (fun hc=>?_) <;> simp only[zX,simprocAttr,i64,iD,bD,hc])
 |(with_reducible refine dj (fun hc=>?_) (fun hc=>?_) <;> simp only[zX,simprocAttr,i64,iD,bD,hc])
 |(with_reducible refine di (fun hc=>?_) (fun hc=>?_) <;> simp only[zX,simprocAttr,i64,iD,bD,hc])
 |(with_reducible refine cF (fun hc=>?_) (fun hc=>?_) <;> simp only[zX,simprocAttr,i64,iD,bD,hc])
 |(with_reducible refine cE (fun hc=>?_) (fun hc=>?_) <;> simp only[zX,simprocAttr,i64,iD,bD,hc])
 |(with_reducible refine fL (fun hc=>?_) (fun hc=>?_) <;> simp only[zX,simprocAttr,i64,iD,bD,hc])
 |(with_reducible refine df (fun hc=>?_) (fun hc=>?_) <;> simp only[zX,simprocAttr,i64,iD,bD,hc]))
 all_goals first
  |(refine congrArg bV (Eq.symm (decide_eq_false fun h=>?_));omega)
  |(refine congrArg bV (Eq.symm (decide_eq_true ?_));omega)
  |(refine congrArg bV (Eq.symm (decide_eq_decide.2 ?_));omega)
  |(refine congrArg bV (Eq.symm (decide_eq_decide.2 ?_));constructor <;> intro h <;> omega)
theorem yP (l:List (Int×Int)) (hl:l.length<=1000000000) (top:Int) (ht:top<=1114111):ba prog 92 [.d (.sl (l.map aV)),i64 top] (bV (fW l top)):=by
 refine an func92 rfl ntmps92 results92 rfl 0 7283 (by simp) (by simp) ?_
 by_cases Rz:(64:Int)<l.length
 ·simp only[zX,simprocAttr,i64,Rz]
  have:¬l.length<=64:=by omega
  simp [fW,bV,this]
 have Pz:l.length<=64:=by omega
 have hR:fW l top=od top (-2) l:=by simp [fW,Pz]
 rw[hR]
 simp only[zX,simprocAttr,i64,Rz]
 refine ay (fun n e s=>∃i:Nat,n=l.length-i/\i<=l.length/\e 0=.d (.sl (l.map aV))/\e 1=i64 top/\e 10=.d (.sl (l.map aV))/\e 11=i64 l.length/\e 12=i64 i/\s=[]/\od top (-2) l=od top (jH l i) (l.drop i)/\(0<i->0<=jH l i/\jH l i<=top))
  ⟨_,_,_,bI.refl,0,rfl,by omega,rfl,rfl,rfl,rfl,rfl,rfl,rfl,fun h=>absurd h (by omega)⟩ ?_
 rintro n e s ⟨i,rfl,hi,h0,h1,dC,kt,iF,rfl,mm,kU⟩
 rcases Nat.lt_or_ge i l.length with az|ib
 ·obtain⟨k,hk⟩:∃k,l[i]?=some k:=⟨_,List.getElem?_eq_getElem az⟩
  have hd:l.drop i=k::l.drop (i+1):=by
   rw[List.drop_eq_getElem_cons az]
   rw[List.getElem?_eq_getElem az]at hk
   simp only[Option.some.injEq]at hk
   rw[hk]
  rw[hd]at mm
  simp only[od]at mm
  have vK:jH l (i+1)=k.2:=by simp [jH,hk]
  simp only[zX,simprocAttr,i64,h0,h1,dC,kt,iF,az,hk,aV,iD]
  refine ar mix [] [] (by rfl) ?_
  cases i with
  |zero =>
   have mm:od top (-2) l=(decide (0<=k.1/\k.1<=k.2/\k.2<=top/\-2+1<k.1)&&od top k.2 (l.drop (0+1))):=mm
   simp only[zX,simprocAttr,i64,h0,h1,dC,kt,iF,hk,aV,iD,Int.natCast_zero]
   repeat' (first
 |(with_reducible refine And.intro (by first|omega|exact⟨by omega,by omega⟩|(simp;done)) ?_)
 |(with_reducible refine jc (fun hc=>?_) (fun hc=>?_) <;> simp only[zX,simprocAttr,i64,h0,h1,dC,kt,iF,hk,aV,iD,Int.natCast_zero,hc])
 |(with_reducible refine dj (fun hc=>?_) (fun hc=>?_) <;> simp only[zX,simprocAttr,i64,h0,h1,dC,kt,iF,hk,aV,iD,Int.natCast_zero,hc])
 |(with_reducible refine di (fun hc=>?_) (fun hc=>?_) <;> simp only[zX,simprocAttr,i64,h0,h1,dC,kt,iF,hk,aV,iD,Int.natCast_zero,hc])
 |(with_reducible refine cF (fun hc=>?_) (fun hc=>?_) <;> simp only[zX,simprocAttr,i64,h0,h1,dC,kt,iF,hk,aV,iD,Int.natCast_zero,hc])
 |(with_reducible refine cE (fun hc=>?_) (fun hc=>?_) <;> simp only[zX,simprocAttr,i64,h0,h1,dC,kt,iF,hk,aV,iD,Int.natCast_zero,hc])
 |(with_reducible refine fL (fun hc=>?_) (fun hc=>?_) <;> simp only[zX,simprocAttr,i64,h0,h1,dC,kt,iF,hk,aV,iD,Int.natCast_zero,hc])
 |(with_reducible refine df (fun hc=>?_) (fun hc=>?_) <;> simp only[zX,simprocAttr,i64,h0,h1,dC,kt,iF,hk,aV,iD,Int.natCast_zero,hc]))
   any_goals (refine congrArg bV (Eq.symm ?_);rw[mm,show decide (0<=k.1/\k.1<=k.2/\k.2<=top/\-2+1<k.1)=false from decide_eq_false (by omega)];rfl)
   refine⟨l.length-1,_,_,by omega,bI.cut 0 (by omega) rfl rfl [0,1,10,11,12] ?_,1,rfl,az,?_,?_,?_,?_,?_,rfl,?_,?_⟩ <;> (try simp only[zU,Nat.reduceBEq,Nat.reduceShiftRight,Nat.reduceMod,Nat.reduceEqDiff,reduceIte])
   ·simp [bB,aL,ah,h0,h1,dC,kt,i64]
   ·exact h0
   ·exact h1
   ·exact dC
   ·exact kt
   ·rw[br _ (by omega)];rfl
   ·rw[mm,vK,show decide (0<=k.1/\k.1<=k.2/\k.2<=top/\-2+1<k.1)=true from decide_eq_true (by omega)];rfl
   ·intro _;rw[vK];omega
  |succ j =>
   obtain⟨kp,BP⟩:∃k,l[j]?=some k:=⟨_,List.getElem?_eq_getElem (by omega:j<l.length)⟩
   have P8:jH l (j+1)=kp.2:=by simp [jH,BP]
   have kU:=kU (by omega)
   rw[P8]at kU mm
   have w1:IntKind.i64.wrap (((j+1:Nat):Int)-1)=(j:Int):=by rw[br _ (by omega)];omega
   have w2:IntKind.i64.wrap (kp.2+2)=kp.2+2:=br _ (by omega)
   have p0:(0:Int)<((j+1:Nat):Int):=by omega
   have q2:(j:Int)<l.length:=by omega
   simp only[zX,simprocAttr,i64,h0,h1,dC,kt,iF,hk,aV,iD,BP,w1,w2,p0,q2]
   repeat' (first
 |(with_reducible refine And.intro (by first|omega|exact⟨by omega,by omega⟩|(simp;done)) ?_)
 |(with_reducible refine jc (fun hc=>?_) (fun hc=>?_) <;> simp only[zX,simprocAttr,i64,h0,h1,dC,kt,iF,hk,aV,iD,BP,w1,w2,p0,q2,hc])
 |(with_reducible refine dj (fun hc=>?_) (fun hc=>?_) <;> simp only[zX,simprocAttr,i64,h0,h1,dC,kt,iF,hk,aV,iD,BP,w1,w2,p0,q2,hc])
 |(with_reducible refine di (fun hc=>?_) (fun hc=>?_) <;> simp only[zX,simprocAttr,i64,h0,h1,dC,kt,iF,hk,aV,iD,BP,w1,w2,p0,q2,hc])
 |(with_reducible refine cF (fun hc=>?_) (fun hc=>?_) <;> simp only[zX,simprocAttr,i64,h0,h1,dC,kt,iF,hk,aV,iD,BP,w1,w2,p0,q2,hc])
 |(with_reducible refine cE (fun hc=>?_) (fun hc=>?_) <;> simp only[zX,simprocAttr,i64,h0,h1,dC,kt,iF,hk,aV,iD,BP,w1,w2,p0,q2,hc])
 |(with_reducible refine fL (fun hc=>?_) (fun hc=>?_) <;> simp only[zX,simprocAttr,i64,h0,h1,dC,kt,iF,hk,aV,iD,BP,w1,w2,p0,q2,hc])
 |(with_reducible refine df (fun hc=>?_) (fun hc=>?_) <;> simp only[zX,simprocAttr,i64,h0,h1,dC,kt,iF,hk,aV,iD,BP,w1,w2,p0,q2,hc]))
   any_goals (refine congrArg bV (Eq.symm ?_);rw[mm,show decide (0<=k.1/\k.1<=k.2/\k.2<=top/\kp.2+1<k.1)=false from decide_eq_false (by omega)];rfl)
   refine⟨l.length-(j+1+1),_,_,by omega,bI.cut 0 (by omega) rfl rfl [0,1,10,11,12] ?_,j+1+1,rfl,az,?_,?_,?_,?_,?_,rfl,?_,?_⟩ <;> (try simp only[zU,Nat.reduceBEq,Nat.reduceShiftRight,Nat.reduceMod,Nat.reduceEqDiff,reduceIte])
   ·simp [bB,aL,ah,h0,h1,dC,kt,i64]
   ·exact h0
   ·exact h1
   ·exact dC
   ·exact kt
   ·rw[br _ (by omega)];rfl
   ·rw[mm,vK,show decide (0<=k.1/\k.1<=k.2/\k.2<=top/\kp.2+1<k.1)=true from decide_eq_true (by omega)];rfl
   ·intro _;rw[vK];omega
 ·have eQ:i=l.length:=by omega
  subst eQ
  simp only[zX,simprocAttr,i64,h0,h1,dC,kt,iF,Nat.lt_irrefl]
  rw[mm]
  simp [od,bV]
end Go.Proofs.Ytfmdmlfhigocaaa
