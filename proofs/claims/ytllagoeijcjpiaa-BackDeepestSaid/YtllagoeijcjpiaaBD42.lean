/- A part of the proof (F46). -/
import Derived.Test.YtllagoeijcjpiaaBD2
import Derived.Test.YtllagoeijcjpiaaBD17
set_option linter.unusedSimpArgs false
set_option linter.unusedVariables false
set_option maxRecDepth 100000
set_option maxHeartbeats 80000000
set_option linter.unusedSimpArgs false
set_option linter.unusedVariables false
namespace Go.Proofs.Ytllagoeijcjpiaa
open Go.VL Go.Proofs.Try
theorem KL (b:Bool):bI prog 90 [bV b] (i64 (fk b)):=by
 refine av func90 rfl ntmps90 results90 rfl 0 5 (by simp) (by simp) ?_
 cases b
 ·simp only[zX,simprocAttr,i64,bV,fk,Vw]
 ·simp only[zX,simprocAttr,i64,bV,fk]
def Av (re:Re):Bool:=decide (0≤re.mn∧re.mn≤32∧0≤re.mode∧re.mode≤2∧(re.mx=-1∨(1≤re.mx∧re.mx≤32∧re.mn≤re.mx)))
theorem EW (re:Re):bI prog 116 [ck re] (bV (Av re)):=by
 refine av func116 rfl ntmps116 results116 rfl 0 5 (by simp) (by simp) ?_
 simp only[zX,simprocAttr,i64,ck,Re.ae re,iD,bD]
 repeat' (first
 |(with_reducible refine And.intro (by first|omega|exact⟨by omega,by omega⟩|(simp;done)) ?_)
 |(with_reducible refine jz (fun hc=>?_) (fun hc=>?_) <;> simp only[zX,simprocAttr,i64,iD,bD,hc])
 |(with_reducible refine dX (fun hc=>?_) (fun hc=>?_) <;> simp only[zX,simprocAttr,i64,iD,bD,hc])
 |(with_reducible refine dW (fun hc=>?_) (fun hc=>?_) <;> simp only[zX,simprocAttr,i64,iD,bD,hc])
 |(with_reducible refine dr (fun hc=>?_) (fun hc=>?_) <;> simp only[zX,simprocAttr,i64,iD,bD,hc])
 |(with_reducible refine dp (fun hc=>?_) (fun hc=>?_) <;> simp only[zX,simprocAttr,i64,iD,bD,hc])
 |(with_reducible refine gr (fun hc=>?_) (fun hc=>?_) <;> simp only[zX,simprocAttr,i64,iD,bD,hc])
 |(with_reducible refine dS (fun hc=>?_) (fun hc=>?_) <;> simp only[zX,simprocAttr,i64,iD,bD,hc]))
 any_goals
  refine an mix [] [] (by rfl) ?_
  simp only[zX,simprocAttr,i64,iD,bD]
 any_goals
  repeat' (first
 |(with_reducible refine And.intro (by first|omega|exact⟨by omega,by omega⟩|(simp;done)) ?_)
 |(with_reducible refine jz (fun hc=>?_) (fun hc=>?_) <;> simp only[zX,simprocAttr,i64,iD,bD,hc])
 |(with_reducible refine dX (fun hc=>?_) (fun hc=>?_) <;> simp only[zX,simprocAttr,i64,iD,bD,hc])
 |(with_reducible refine dW (fun hc=>?_) (fun hc=>?_) <;> simp only[zX,simprocAttr,i64,iD,bD,hc])
 |(with_reducible refine dr (fun hc=>?_) (fun hc=>?_) <;> simp only[zX,simprocAttr,i64,iD,bD,hc])
 |(with_reducible refine dp (fun hc=>?_) (fun hc=>?_) <;> simp only[zX,simprocAttr,i64,iD,bD,hc])
 |(with_reducible refine gr (fun hc=>?_) (fun hc=>?_) <;> simp only[zX,simprocAttr,i64,iD,bD,hc])
 |(with_reducible refine dS (fun hc=>?_) (fun hc=>?_) <;> simp only[zX,simprocAttr,i64,iD,bD,hc]))
 all_goals first
  |(refine congrArg bV (Eq.symm (decide_eq_false fun h=>?_));omega)
  |(refine congrArg bV (Eq.symm (decide_eq_true ?_));omega)
  |(refine congrArg bV (Eq.symm (decide_eq_decide.2 ?_));omega)
  |(refine congrArg bV (Eq.symm (decide_eq_decide.2 ?_));constructor <;> intro h <;> omega)
theorem xI (l:List (Int×Int)) (hl:l.length≤1000000000) (top:Int) (ht:top≤1114111):bI prog 115 [.d (.sl (l.map aM)),i64 top] (bV (gV l top)):=by
 refine av func115 rfl ntmps115 results115 rfl 0 7283 (by simp) (by simp) ?_
 by_cases Pp:(64:Int)<l.length
 ·simp only[zX,simprocAttr,i64,Pp]
  have:¬l.length≤64:=by omega
  simp [gV,bV,this]
 have NI:l.length≤64:=by omega
 have hR:gV l top=oL top (-2) l:=by simp [gV,NI]
 rw[hR]
 simp only[zX,simprocAttr,i64,Pp]
 refine aY (fun n e s=>∃i:Nat,n=l.length-i∧i≤l.length∧e 0=.d (.sl (l.map aM))∧e 1=i64 top∧e 10=.d (.sl (l.map aM))∧e 11=i64 l.length∧e 12=i64 i∧s=[]∧oL top (-2) l=oL top (jC l i) (l.drop i)∧(0<i→0≤jC l i∧jC l i≤top))
  ⟨_,_,_,dt.refl,0,rfl,by omega,rfl,rfl,rfl,rfl,rfl,rfl,rfl,fun h=>absurd h (by omega)⟩ ?_
 rintro n e s ⟨i,rfl,hi,h0,h1,de,cq,bW,rfl,eD,LH⟩
 rcases VX i l.length with aT|iR
 ·obtain⟨k,hk⟩:∃k,l[i]?=some k:=⟨_,Vu aT⟩
  have hd:l.drop i=k::l.drop (i+1):=by
   rw[List.drop_eq_getElem_cons aT]
   rw[Vu aT]at hk
   simp only[Option.some.injEq]at hk
   rw[hk]
  rw[hd]at eD
  simp only[oL]at eD
  have Fh:jC l (i+1)=k.2:=by simp [jC,hk]
  simp only[zX,simprocAttr,i64,h0,h1,de,cq,bW,aT,hk,aM,iD]
  refine an mix [] [] (by rfl) ?_
  cases i with
  |zero =>
   have eD:oL top (-2) l=(decide (0≤k.1∧k.1≤k.2∧k.2≤top∧-2+1<k.1)&&oL top k.2 (l.drop (0+1))):=eD
   simp only[zX,simprocAttr,i64,h0,h1,de,cq,bW,hk,aM,iD,VG]
   repeat' (first
 |(with_reducible refine And.intro (by first|omega|exact⟨by omega,by omega⟩|(simp;done)) ?_)
 |(with_reducible refine jz (fun hc=>?_) (fun hc=>?_) <;> simp only[zX,simprocAttr,i64,h0,h1,de,cq,bW,hk,aM,iD,VG,hc])
 |(with_reducible refine dX (fun hc=>?_) (fun hc=>?_) <;> simp only[zX,simprocAttr,i64,h0,h1,de,cq,bW,hk,aM,iD,VG,hc])
 |(with_reducible refine dW (fun hc=>?_) (fun hc=>?_) <;> simp only[zX,simprocAttr,i64,h0,h1,de,cq,bW,hk,aM,iD,VG,hc])
 |(with_reducible refine dr (fun hc=>?_) (fun hc=>?_) <;> simp only[zX,simprocAttr,i64,h0,h1,de,cq,bW,hk,aM,iD,VG,hc])
 |(with_reducible refine dp (fun hc=>?_) (fun hc=>?_) <;> simp only[zX,simprocAttr,i64,h0,h1,de,cq,bW,hk,aM,iD,VG,hc])
 |(with_reducible refine gr (fun hc=>?_) (fun hc=>?_) <;> simp only[zX,simprocAttr,i64,h0,h1,de,cq,bW,hk,aM,iD,VG,hc])
 |(with_reducible refine dS (fun hc=>?_) (fun hc=>?_) <;> simp only[zX,simprocAttr,i64,h0,h1,de,cq,bW,hk,aM,iD,VG,hc]))
   any_goals (refine congrArg bV (Eq.symm ?_);rw[eD,show decide (0≤k.1∧k.1≤k.2∧k.2≤top∧-2+1<k.1)=false from decide_eq_false (by omega)];rfl)
   refine⟨l.length-1,_,_,by omega,dt.cut 0 (by omega) rfl rfl [0,1,10,11,12] ?_,1,rfl,aT,?_,?_,?_,?_,?_,rfl,?_,?_⟩ <;> (try simp only[zU,Nat.reduceBEq,Nat.reduceShiftRight,Nat.reduceMod,Nat.reduceEqDiff,reduceIte])
   ·simp [cu,bg,ar,h0,h1,de,cq,i64]
   ·exact h0
   ·exact h1
   ·exact de
   ·exact cq
   ·rw[bR _ (by omega)];rfl
   ·rw[eD,Fh,show decide (0≤k.1∧k.1≤k.2∧k.2≤top∧-2+1<k.1)=true from decide_eq_true (by omega)];rfl
   ·intro _;rw[Fh];omega
  |succ j =>
   obtain⟨kp,xk⟩:∃k,l[j]?=some k:=⟨_,Vu (by omega:j<l.length)⟩
   have St:jC l (j+1)=kp.2:=by simp [jC,xk]
   have LH:=LH (by omega)
   rw[St]at LH eD
   have w1:IntKind.i64.wrap (((j+1:Nat):Int)-1)=(j:Int):=by rw[bR _ (by omega)];omega
   have w2:IntKind.i64.wrap (kp.2+2)=kp.2+2:=bR _ (by omega)
   have p0:(0:Int)<((j+1:Nat):Int):=by omega
   have q2:(j:Int)<l.length:=by omega
   simp only[zX,simprocAttr,i64,h0,h1,de,cq,bW,hk,aM,iD,xk,w1,w2,p0,q2]
   repeat' (first
 |(with_reducible refine And.intro (by first|omega|exact⟨by omega,by omega⟩|(simp;done)) ?_)
 |(with_reducible refine jz (fun hc=>?_) (fun hc=>?_) <;> simp only[zX,simprocAttr,i64,h0,h1,de,cq,bW,hk,aM,iD,xk,w1,w2,p0,q2,hc])
 |(with_reducible refine dX (fun hc=>?_) (fun hc=>?_) <;> simp only[zX,simprocAttr,i64,h0,h1,de,cq,bW,hk,aM,iD,xk,w1,w2,p0,q2,hc])
 |(with_reducible refine dW (fun hc=>?_) (fun hc=>?_) <;> simp only[zX,simprocAttr,i64,h0,h1,de,cq,bW,hk,aM,iD,xk,w1,w2,p0,q2,hc])
 |(with_reducible refine dr (fun hc=>?_) (fun hc=>?_) <;> simp only[zX,simprocAttr,i64,h0,h1,de,cq,bW,hk,aM,iD,xk,w1,w2,p0,q2,hc])
 |(with_reducible refine dp (fun hc=>?_) (fun hc=>?_) <;> simp only[zX,simprocAttr,i64,h0,h1,de,cq,bW,hk,aM,iD,xk,w1,w2,p0,q2,hc])
 |(with_reducible refine gr (fun hc=>?_) (fun hc=>?_) <;> simp only[zX,simprocAttr,i64,h0,h1,de,cq,bW,hk,aM,iD,xk,w1,w2,p0,q2,hc])
 |(with_reducible refine dS (fun hc=>?_) (fun hc=>?_) <;> simp only[zX,simprocAttr,i64,h0,h1,de,cq,bW,hk,aM,iD,xk,w1,w2,p0,q2,hc]))
   any_goals (refine congrArg bV (Eq.symm ?_);rw[eD,show decide (0≤k.1∧k.1≤k.2∧k.2≤top∧kp.2+1<k.1)=false from decide_eq_false (by omega)];rfl)
   refine⟨l.length-(j+1+1),_,_,by omega,dt.cut 0 (by omega) rfl rfl [0,1,10,11,12] ?_,j+1+1,rfl,aT,?_,?_,?_,?_,?_,rfl,?_,?_⟩ <;> (try simp only[zU,Nat.reduceBEq,Nat.reduceShiftRight,Nat.reduceMod,Nat.reduceEqDiff,reduceIte])
   ·simp [cu,bg,ar,h0,h1,de,cq,i64]
   ·exact h0
   ·exact h1
   ·exact de
   ·exact cq
   ·rw[bR _ (by omega)];rfl
   ·rw[eD,Fh,show decide (0≤k.1∧k.1≤k.2∧k.2≤top∧kp.2+1<k.1)=true from decide_eq_true (by omega)];rfl
   ·intro _;rw[Fh];omega
 ·have kT:i=l.length:=by omega
  subst kT
  simp only[zX,simprocAttr,i64,h0,h1,de,cq,bW,Wj]
  rw[eD]
  simp [oL,bV]
end Go.Proofs.Ytllagoeijcjpiaa
