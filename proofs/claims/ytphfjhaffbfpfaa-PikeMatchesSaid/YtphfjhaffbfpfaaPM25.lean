/- A part of the proof (F47B F47C F47D F47E). -/
import Derived.Test.YtphfjhaffbfpfaaPM23
set_option linter.all false
set_option maxRecDepth 100000
set_option maxHeartbeats 80000000
namespace Go.Proofs.Ytphfjhaffbfpfaa
open Go.VL Go.Proofs.Try
theorem Pt (re:Re) (hf:re.eN=true) (ah top:Int) (ht:top<=1114111) (O3:re.op=0\/re.op=2\/re.op=3):ba prog 34 [bP re,i64 ah,i64 top] (bV (b9 re ah top)):=by
 obtain⟨nV,hlen,A4⟩:=Re.fC hf;rcases O3 with p|p|p;all_goals
  refine ar func34 rfl ntmps34 results34 rfl 0 77371252473350734410155975 (by simp) (by simp) ?_;simp only[zX,simprocAttr,i64,bP,Re.ae re,iD,bD,p]
  repeat' (first
 |(with_reducible refine And.intro (by first|omega|exact⟨by omega,by omega⟩|(simp;done)) ?_)
 |(with_reducible first|refine jh (λhc=>?_) (λhc=>?_)|refine dG (λhc=>?_) (λhc=>?_)|refine dN (λhc=>?_) (λhc=>?_)|refine dd (λhc=>?_) (λhc=>?_)|refine de (λhc=>?_) (λhc=>?_)|refine gv (λhc=>?_) (λhc=>?_)|refine dM (λhc=>?_) (λhc=>?_))<;>simp only[zX,simprocAttr,i64,iD,bD,p,hc])
 all_goals
  rcases Bool.eq_false_or_eq_true re.neg with cS|cS;all_goals
   try (exfalso;rw[cS]at hc;exact absurd hc (by decide);done)
   try simp only[cS,ads,adz]
   first
    |(refine congrArg bV (Eq.symm (Bool.eq_false_iff.2 λh=>?_))
      simp only[b9,cR,p,cS,Int.reduceEq,or_self,if_false,or_true,true_or,or_false,false_or,if_true,reduceIte,adD,adC,ads,adz,ad4,adY,reduceCtorEq,adq,false_and,and_false,true_and,and_true]at h;try omega
      done)
    |(refine congrArg bV (Eq.symm ?_)
      simp only[b9,cR,p,cS,Int.reduceEq,or_self,if_false,or_true,true_or,or_false,false_or,if_true,reduceIte,adD,adC,ads,adz,ad4,adY,reduceCtorEq,adq,false_and,and_false,true_and,and_true];try omega
      done)
theorem PH (re:Re) (hf:re.eN=true) (ah top:Int) (ht:top<=1114111) (O3:re.op=5\/re.op=6\/re.op=7):ba prog 34 [bP re,i64 ah,i64 top] (bV (b9 re ah top)):=by
 obtain⟨nV,hlen,A4⟩:=Re.fC hf;rcases O3 with p|p|p;all_goals
  refine ar func34 rfl ntmps34 results34 rfl 0 77371252473350734410155975 (by simp) (by simp) ?_;simp only[zX,simprocAttr,i64,bP,Re.ae re,iD,bD,p]
  repeat' (first
 |(with_reducible refine And.intro (by first|omega|exact⟨by omega,by omega⟩|(simp;done)) ?_)
 |(with_reducible first|refine jh (λhc=>?_) (λhc=>?_)|refine dG (λhc=>?_) (λhc=>?_)|refine dN (λhc=>?_) (λhc=>?_)|refine dd (λhc=>?_) (λhc=>?_)|refine de (λhc=>?_) (λhc=>?_)|refine gv (λhc=>?_) (λhc=>?_)|refine dM (λhc=>?_) (λhc=>?_))<;>simp only[zX,simprocAttr,i64,iD,bD,p,hc])
 all_goals
  rcases Bool.eq_false_or_eq_true re.neg with cS|cS;all_goals
   try (exfalso;rw[cS]at hc;exact absurd hc (by decide);done)
   try simp only[cS,ads,adz]
   first
    |(refine congrArg bV (Eq.symm (Bool.eq_false_iff.2 λh=>?_))
      simp only[b9,cR,p,cS,Int.reduceEq,or_self,if_false,or_true,true_or,or_false,false_or,if_true,reduceIte,adD,adC,ads,adz,ad4,adY,reduceCtorEq,adq,false_and,and_false,true_and,and_true]at h;try omega
      done)
    |(refine congrArg bV (Eq.symm ?_)
      simp only[b9,cR,p,cS,Int.reduceEq,or_self,if_false,or_true,true_or,or_false,false_or,if_true,reduceIte,adD,adC,ads,adz,ad4,adY,reduceCtorEq,adq,false_and,and_false,true_and,and_true];try omega
      done)
theorem M8 (re:Re) (hf:re.eN=true) (ah top:Int) (ht:top<=1114111) (O3:re.op=8\/re.op=9):ba prog 34 [bP re,i64 ah,i64 top] (bV (b9 re ah top)):=by
 obtain⟨nV,hlen,A4⟩:=Re.fC hf;rcases O3 with p|p;all_goals
  refine ar func34 rfl ntmps34 results34 rfl 0 77371252473350734410155975 (by simp) (by simp) ?_;simp only[zX,simprocAttr,i64,bP,Re.ae re,iD,bD,p]
  repeat' (first
 |(with_reducible refine And.intro (by first|omega|exact⟨by omega,by omega⟩|(simp;done)) ?_)
 |(with_reducible first|refine jh (λhc=>?_) (λhc=>?_)|refine dG (λhc=>?_) (λhc=>?_)|refine dN (λhc=>?_) (λhc=>?_)|refine dd (λhc=>?_) (λhc=>?_)|refine de (λhc=>?_) (λhc=>?_)|refine gv (λhc=>?_) (λhc=>?_)|refine dM (λhc=>?_) (λhc=>?_))<;>simp only[zX,simprocAttr,i64,iD,bD,p,hc])
 all_goals
  rcases Bool.eq_false_or_eq_true re.neg with cS|cS;all_goals
   try (exfalso;rw[cS]at hc;exact absurd hc (by decide);done)
   try simp only[cS,ads,adz]
   first
    |(refine congrArg bV (Eq.symm (Bool.eq_false_iff.2 λh=>?_))
      simp only[b9,cR,p,cS,Int.reduceEq,or_self,if_false,or_true,true_or,or_false,false_or,if_true,reduceIte,adD,adC,ads,adz,ad4,adY,reduceCtorEq,adq,false_and,and_false,true_and,and_true]at h;try omega
      done)
    |(refine congrArg bV (Eq.symm ?_)
      simp only[b9,cR,p,cS,Int.reduceEq,or_self,if_false,or_true,true_or,or_false,false_or,if_true,reduceIte,adD,adC,ads,adz,ad4,adY,reduceCtorEq,adq,false_and,and_false,true_and,and_true];try omega
      done)
theorem NR (re:Re) (hf:re.eN=true) (ah top:Int) (ht:top<=1114111) (O3:re.op=10\/re.op=11):ba prog 34 [bP re,i64 ah,i64 top] (bV (b9 re ah top)):=by
 obtain⟨nV,hlen,A4⟩:=Re.fC hf;rcases O3 with p|p;all_goals
  refine ar func34 rfl ntmps34 results34 rfl 0 77371252473350734410155975 (by simp) (by simp) ?_;simp only[zX,simprocAttr,i64,bP,Re.ae re,iD,bD,p]
  repeat' (first
 |(with_reducible refine And.intro (by first|omega|exact⟨by omega,by omega⟩|(simp;done)) ?_)
 |(with_reducible first|refine jh (λhc=>?_) (λhc=>?_)|refine dG (λhc=>?_) (λhc=>?_)|refine dN (λhc=>?_) (λhc=>?_)|refine dd (λhc=>?_) (λhc=>?_)|refine de (λhc=>?_) (λhc=>?_)|refine gv (λhc=>?_) (λhc=>?_)|refine dM (λhc=>?_) (λhc=>?_))<;>simp only[zX,simprocAttr,i64,iD,bD,p,hc])
 all_goals
  rcases Bool.eq_false_or_eq_true re.neg with cS|cS;all_goals
   try (exfalso;rw[cS]at hc;exact absurd hc (by decide);done)
   try simp only[cS,ads,adz]
   first
    |(refine congrArg bV (Eq.symm (Bool.eq_false_iff.2 λh=>?_))
      simp only[b9,cR,p,cS,Int.reduceEq,or_self,if_false,or_true,true_or,or_false,false_or,if_true,reduceIte,adD,adC,ads,adz,ad4,adY,reduceCtorEq,adq,false_and,and_false,true_and,and_true]at h;try omega
      done)
    |(refine congrArg bV (Eq.symm ?_)
      simp only[b9,cR,p,cS,Int.reduceEq,or_self,if_false,or_true,true_or,or_false,false_or,if_true,reduceIte,adD,adC,ads,adz,ad4,adY,reduceCtorEq,adq,false_and,and_false,true_and,and_true];try omega
      done)
end Go.Proofs.Ytphfjhaffbfpfaa
