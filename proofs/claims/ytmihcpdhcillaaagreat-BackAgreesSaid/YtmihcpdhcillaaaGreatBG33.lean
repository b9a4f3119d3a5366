/- A part of the proof (F47B F47C). -/
import Derived.Test.YtmihcpdhcillaaaGreatBG32
set_option linter.unusedSimpArgs false
set_option linter.unusedVariables false
set_option maxRecDepth 100000
set_option maxHeartbeats 80000000
set_option linter.unusedSimpArgs false
set_option linter.unusedVariables false
namespace Go.Proofs.YtmihcpdhcillaaaGreat
open Go.VL Go.Proofs.Tryz
theorem Ki (re:Re) (hf:re.fA=true) (ak top:Int) (ht:top≤1114111) (Jw:re.op=0∨re.op=2∨re.op=3):br prog 35 [bT re,i64 ak,i64 top] (bV (b7 re ak top)):=by
 obtain⟨pf,hlen,J4⟩:=Re.gR hf
 rcases Jw with p|p|p
 all_goals
  refine aw func35 rfl ntmps35 results35 rfl 0 77371252473350734410155975 (by simp) (by simp) ?_
  simp only[zX,simprocAttr,i64,bT,Re.ae re,iD,bD,p]
  repeat' (first
 |(with_reducible refine And.intro (by first|omega|exact⟨by omega,by omega⟩|(simp;done)) ?_)
 |(with_reducible refine je (fun hc=>?_) (fun hc=>?_) <;> simp only[zX,simprocAttr,i64,iD,bD,p,hc])
 |(with_reducible refine dR (fun hc=>?_) (fun hc=>?_) <;> simp only[zX,simprocAttr,i64,iD,bD,p,hc])
 |(with_reducible refine dQ (fun hc=>?_) (fun hc=>?_) <;> simp only[zX,simprocAttr,i64,iD,bD,p,hc])
 |(with_reducible refine de (fun hc=>?_) (fun hc=>?_) <;> simp only[zX,simprocAttr,i64,iD,bD,p,hc])
 |(with_reducible refine dh (fun hc=>?_) (fun hc=>?_) <;> simp only[zX,simprocAttr,i64,iD,bD,p,hc])
 |(with_reducible refine gi (fun hc=>?_) (fun hc=>?_) <;> simp only[zX,simprocAttr,i64,iD,bD,p,hc])
 |(with_reducible refine dP (fun hc=>?_) (fun hc=>?_) <;> simp only[zX,simprocAttr,i64,iD,bD,p,hc]))
 all_goals
  rcases XW re.neg with cu|cu
  all_goals
   try (exfalso;rw[cu]at hc;exact absurd hc (by decide);done)
   try simp only[cu,WY,W0]
   first
    |(refine congrArg bV (Eq.symm (Bool.eq_false_iff.2 fun h=>?_))
      simp only[b7,cR,p,cu,Int.reduceEq,or_self,if_false,or_true,true_or,or_false,false_or,if_true,reduceIte,W7,decide_eq_true_eq,WY,W0,Xq,Xj,reduceCtorEq,W2,false_and,and_false,true_and,and_true]at h
      try omega
      done)
    |(refine congrArg bV (Eq.symm ?_)
      simp only[b7,cR,p,cu,Int.reduceEq,or_self,if_false,or_true,true_or,or_false,false_or,if_true,reduceIte,W7,decide_eq_true_eq,WY,W0,Xq,Xj,reduceCtorEq,W2,false_and,and_false,true_and,and_true]
      try omega
      done)
theorem Ke (re:Re) (hf:re.fA=true) (ak top:Int) (ht:top≤1114111) (Jw:re.op=5∨re.op=6∨re.op=7):br prog 35 [bT re,i64 ak,i64 top] (bV (b7 re ak top)):=by
 obtain⟨pf,hlen,J4⟩:=Re.gR hf
 rcases Jw with p|p|p
 all_goals
  refine aw func35 rfl ntmps35 results35 rfl 0 77371252473350734410155975 (by simp) (by simp) ?_
  simp only[zX,simprocAttr,i64,bT,Re.ae re,iD,bD,p]
  repeat' (first
 |(with_reducible refine And.intro (by first|omega|exact⟨by omega,by omega⟩|(simp;done)) ?_)
 |(with_reducible refine je (fun hc=>?_) (fun hc=>?_) <;> simp only[zX,simprocAttr,i64,iD,bD,p,hc])
 |(with_reducible refine dR (fun hc=>?_) (fun hc=>?_) <;> simp only[zX,simprocAttr,i64,iD,bD,p,hc])
 |(with_reducible refine dQ (fun hc=>?_) (fun hc=>?_) <;> simp only[zX,simprocAttr,i64,iD,bD,p,hc])
 |(with_reducible refine de (fun hc=>?_) (fun hc=>?_) <;> simp only[zX,simprocAttr,i64,iD,bD,p,hc])
 |(with_reducible refine dh (fun hc=>?_) (fun hc=>?_) <;> simp only[zX,simprocAttr,i64,iD,bD,p,hc])
 |(with_reducible refine gi (fun hc=>?_) (fun hc=>?_) <;> simp only[zX,simprocAttr,i64,iD,bD,p,hc])
 |(with_reducible refine dP (fun hc=>?_) (fun hc=>?_) <;> simp only[zX,simprocAttr,i64,iD,bD,p,hc]))
 all_goals
  rcases XW re.neg with cu|cu
  all_goals
   try (exfalso;rw[cu]at hc;exact absurd hc (by decide);done)
   try simp only[cu,WY,W0]
   first
    |(refine congrArg bV (Eq.symm (Bool.eq_false_iff.2 fun h=>?_))
      simp only[b7,cR,p,cu,Int.reduceEq,or_self,if_false,or_true,true_or,or_false,false_or,if_true,reduceIte,W7,decide_eq_true_eq,WY,W0,Xq,Xj,reduceCtorEq,W2,false_and,and_false,true_and,and_true]at h
      try omega
      done)
    |(refine congrArg bV (Eq.symm ?_)
      simp only[b7,cR,p,cu,Int.reduceEq,or_self,if_false,or_true,true_or,or_false,false_or,if_true,reduceIte,W7,decide_eq_true_eq,WY,W0,Xq,Xj,reduceCtorEq,W2,false_and,and_false,true_and,and_true]
      try omega
      done)
end Go.Proofs.YtmihcpdhcillaaaGreat
