/- A part of the proof (F47B F47C). -/
import Derived.Test.YtllagoeijcjpiaaBD42
set_option linter.unusedSimpArgs false
set_option linter.unusedVariables false
set_option maxRecDepth 100000
set_option maxHeartbeats 80000000
set_option linter.unusedSimpArgs false
set_option linter.unusedVariables false
namespace Go.Proofs.Ytllagoeijcjpiaa
open Go.VL Go.Proofs.Try
theorem KB (re:Re) (hf:re.gi=true) (ai top:Int) (ht:top≤1114111) (JK:re.op=0∨re.op=2∨re.op=3):bI prog 92 [ck re,i64 ai,i64 top] (bV (cg re ai top)):=by
 obtain⟨oT,hlen,JR⟩:=Re.ie hf
 rcases JK with p|p|p
 all_goals
  refine av func92 rfl ntmps92 results92 rfl 0 77371252473350734410155975 (by simp) (by simp) ?_
  simp only[zX,simprocAttr,i64,ck,Re.ae re,iD,bD,p]
  repeat' (first
 |(with_reducible refine And.intro (by first|omega|exact⟨by omega,by omega⟩|(simp;done)) ?_)
 |(with_reducible refine jz (fun hc=>?_) (fun hc=>?_) <;> simp only[zX,simprocAttr,i64,iD,bD,p,hc])
 |(with_reducible refine dX (fun hc=>?_) (fun hc=>?_) <;> simp only[zX,simprocAttr,i64,iD,bD,p,hc])
 |(with_reducible refine dW (fun hc=>?_) (fun hc=>?_) <;> simp only[zX,simprocAttr,i64,iD,bD,p,hc])
 |(with_reducible refine dr (fun hc=>?_) (fun hc=>?_) <;> simp only[zX,simprocAttr,i64,iD,bD,p,hc])
 |(with_reducible refine dp (fun hc=>?_) (fun hc=>?_) <;> simp only[zX,simprocAttr,i64,iD,bD,p,hc])
 |(with_reducible refine gr (fun hc=>?_) (fun hc=>?_) <;> simp only[zX,simprocAttr,i64,iD,bD,p,hc])
 |(with_reducible refine dS (fun hc=>?_) (fun hc=>?_) <;> simp only[zX,simprocAttr,i64,iD,bD,p,hc]))
 all_goals
  rcases Wr re.neg with ca|ca
  all_goals
   try (exfalso;rw[ca]at hc;exact absurd hc (by decide);done)
   try simp only[ca,Vs,Vt]
   first
    |(refine congrArg bV (Eq.symm (Bool.eq_false_iff.2 fun h=>?_))
      simp only[cg,da,p,ca,Int.reduceEq,or_self,if_false,or_true,true_or,or_false,false_or,if_true,reduceIte,VE,decide_eq_true_eq,Vs,Vt,VV,VM,reduceCtorEq,Vw,false_and,and_false,true_and,and_true]at h
      try omega
      done)
    |(refine congrArg bV (Eq.symm ?_)
      simp only[cg,da,p,ca,Int.reduceEq,or_self,if_false,or_true,true_or,or_false,false_or,if_true,reduceIte,VE,decide_eq_true_eq,Vs,Vt,VV,VM,reduceCtorEq,Vw,false_and,and_false,true_and,and_true]
      try omega
      done)
theorem KK (re:Re) (hf:re.gi=true) (ai top:Int) (ht:top≤1114111) (JK:re.op=5∨re.op=6∨re.op=7):bI prog 92 [ck re,i64 ai,i64 top] (bV (cg re ai top)):=by
 obtain⟨oT,hlen,JR⟩:=Re.ie hf
 rcases JK with p|p|p
 all_goals
  refine av func92 rfl ntmps92 results92 rfl 0 77371252473350734410155975 (by simp) (by simp) ?_
  simp only[zX,simprocAttr,i64,ck,Re.ae re,iD,bD,p]
  repeat' (first
 |(with_reducible refine And.intro (by first|omega|exact⟨by omega,by omega⟩|(simp;done)) ?_)
 |(with_reducible refine jz (fun hc=>?_) (fun hc=>?_) <;> simp only[zX,simprocAttr,i64,iD,bD,p,hc])
 |(with_reducible refine dX (fun hc=>?_) (fun hc=>?_) <;> simp only[zX,simprocAttr,i64,iD,bD,p,hc])
 |(with_reducible refine dW (fun hc=>?_) (fun hc=>?_) <;> simp only[zX,simprocAttr,i64,iD,bD,p,hc])
 |(with_reducible refine dr (fun hc=>?_) (fun hc=>?_) <;> simp only[zX,simprocAttr,i64,iD,bD,p,hc])
 |(with_reducible refine dp (fun hc=>?_) (fun hc=>?_) <;> simp only[zX,simprocAttr,i64,iD,bD,p,hc])
 |(with_reducible refine gr (fun hc=>?_) (fun hc=>?_) <;> simp only[zX,simprocAttr,i64,iD,bD,p,hc])
 |(with_reducible refine dS (fun hc=>?_) (fun hc=>?_) <;> simp only[zX,simprocAttr,i64,iD,bD,p,hc]))
 all_goals
  rcases Wr re.neg with ca|ca
  all_goals
   try (exfalso;rw[ca]at hc;exact absurd hc (by decide);done)
   try simp only[ca,Vs,Vt]
   first
    |(refine congrArg bV (Eq.symm (Bool.eq_false_iff.2 fun h=>?_))
      simp only[cg,da,p,ca,Int.reduceEq,or_self,if_false,or_true,true_or,or_false,false_or,if_true,reduceIte,VE,decide_eq_true_eq,Vs,Vt,VV,VM,reduceCtorEq,Vw,false_and,and_false,true_and,and_true]at h
      try omega
      done)
    |(refine congrArg bV (Eq.symm ?_)
      simp only[cg,da,p,ca,Int.reduceEq,or_self,if_false,or_true,true_or,or_false,false_or,if_true,reduceIte,VE,decide_eq_true_eq,Vs,Vt,VV,VM,reduceCtorEq,Vw,false_and,and_false,true_and,and_true]
      try omega
      done)
end Go.Proofs.Ytllagoeijcjpiaa
