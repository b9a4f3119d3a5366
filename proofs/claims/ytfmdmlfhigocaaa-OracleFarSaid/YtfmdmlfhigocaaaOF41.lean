/- A part of the proof (F47 F47B F47C F47D F47E F48). -/
import Derived.Test.YtfmdmlfhigocaaaOF40
set_option linter.unusedSimpArgs false
set_option linter.unusedVariables false
set_option maxRecDepth 100000
set_option maxHeartbeats 80000000
set_option linter.unusedSimpArgs false
set_option linter.unusedVariables false
namespace Go.Proofs.Ytfmdmlfhigocaaa
open Go.VL Go.Proofs.Try
theorem K8 (re:Re) (hf:re.dG=true) (ai top:Int) (ht:top<=1114111) (sK:re.op=1\/re.op=4\/(¬re.op=0/\¬re.op=1/\¬re.op=2/\¬re.op=3/\¬re.op=4/\¬re.op=5/\¬re.op=6/\¬re.op=7/\¬re.op=8/\¬re.op=9/\¬re.op=10/\¬re.op=11)):ba prog 68 [bm re,i64 ai,i64 top] (bV (bG re ai top)):=by
 obtain⟨pq,hlen,FK⟩:=Re.fr hf
 have mm:=yP re.set pq top ht
 have Ro:=Gz re
 rw[bm,Re.ae]at Ro
 simp only[i64,iD,bD]at mm Ro
 rcases sK with p|p|⟨p0,p1,p2,p3,p4,p5,p6,p7,p8,p9,TZ,SV⟩
 case inr.inr =>
  rw[show bG re ai top=false by simp only[bG];rw[decide_eq_false (by omega)];rfl]
  by_cases n1:1<=re.n
  ·by_cases n2:re.n<=ai
   ·refine an func68 rfl ntmps68 results68 rfl 0 77371252473350734410155975 (by simp) (by simp) ?_
    simp only[zX,simprocAttr,i64,bm,Re.ae re,iD,bD,p0,p1,p2,p3,p4,p5,p6,p7,p8,p9,TZ,SV,n1,n2]
    all_goals first|exact⟨rfl,rfl⟩|exact⟨rfl,trivial⟩|rfl|trivial|(rw[aj];rfl)
   ·refine an func68 rfl ntmps68 results68 rfl 0 77371252473350734410155975 (by simp) (by simp) ?_
    simp only[zX,simprocAttr,i64,bm,Re.ae re,iD,bD,p0,p1,p2,p3,p4,p5,p6,p7,p8,p9,TZ,SV,n1,n2]
    all_goals first|exact⟨rfl,rfl⟩|exact⟨rfl,trivial⟩|rfl|trivial|(rw[aj];rfl)
  ·refine an func68 rfl ntmps68 results68 rfl 0 77371252473350734410155975 (by simp) (by simp) ?_
   simp only[zX,simprocAttr,i64,bm,Re.ae re,iD,bD,p0,p1,p2,p3,p4,p5,p6,p7,p8,p9,TZ,SV,n1]
   all_goals first|exact⟨rfl,rfl⟩|exact⟨rfl,trivial⟩|rfl|trivial|(rw[aj];rfl)
 case inl =>
  generalize hv:fW re.set top=sv at mm
  cases sv
  all_goals
   refine an func68 rfl ntmps68 results68 rfl 0 77371252473350734410155975 (by simp) (by simp) ?_
   simp only[zX,simprocAttr,i64,bm,Re.ae re,iD,bD,p,List.length_nil,Int.natCast_zero]
   repeat' (first
 |(with_reducible refine And.intro (by first|omega|exact⟨by omega,by omega⟩|(simp;done)) ?_)
 |(with_reducible refine jc (fun hc=>?_) (fun hc=>?_) <;> simp only[zX,simprocAttr,i64,iD,bD,p,List.length_nil,Int.natCast_zero,hc])
 |(with_reducible refine dj (fun hc=>?_) (fun hc=>?_) <;> simp only[zX,simprocAttr,i64,iD,bD,p,List.length_nil,Int.natCast_zero,hc])
 |(with_reducible refine di (fun hc=>?_) (fun hc=>?_) <;> simp only[zX,simprocAttr,i64,iD,bD,p,List.length_nil,Int.natCast_zero,hc])
 |(with_reducible refine cF (fun hc=>?_) (fun hc=>?_) <;> simp only[zX,simprocAttr,i64,iD,bD,p,List.length_nil,Int.natCast_zero,hc])
 |(with_reducible refine cE (fun hc=>?_) (fun hc=>?_) <;> simp only[zX,simprocAttr,i64,iD,bD,p,List.length_nil,Int.natCast_zero,hc])
 |(with_reducible refine fL (fun hc=>?_) (fun hc=>?_) <;> simp only[zX,simprocAttr,i64,iD,bD,p,List.length_nil,Int.natCast_zero,hc])
 |(with_reducible refine df (fun hc=>?_) (fun hc=>?_) <;> simp only[zX,simprocAttr,i64,iD,bD,p,List.length_nil,Int.natCast_zero,hc]))
  any_goals
   refine al mm (by simp [ah,ah.go,aj,i64,bV,bm]) (by simp [ah,ah.go,aj,i64,bV,bm]) ?_
   simp only[zX,simprocAttr,i64,iD,bD,p,bV,List.length_nil,Int.natCast_zero]
  any_goals
   repeat' (first
 |(with_reducible refine And.intro (by first|omega|exact⟨by omega,by omega⟩|(simp;done)) ?_)
 |(with_reducible refine jc (fun hc=>?_) (fun hc=>?_) <;> simp only[zX,simprocAttr,i64,iD,bD,p,bV,List.length_nil,Int.natCast_zero,hc])
 |(with_reducible refine dj (fun hc=>?_) (fun hc=>?_) <;> simp only[zX,simprocAttr,i64,iD,bD,p,bV,List.length_nil,Int.natCast_zero,hc])
 |(with_reducible refine di (fun hc=>?_) (fun hc=>?_) <;> simp only[zX,simprocAttr,i64,iD,bD,p,bV,List.length_nil,Int.natCast_zero,hc])
 |(with_reducible refine cF (fun hc=>?_) (fun hc=>?_) <;> simp only[zX,simprocAttr,i64,iD,bD,p,bV,List.length_nil,Int.natCast_zero,hc])
 |(with_reducible refine cE (fun hc=>?_) (fun hc=>?_) <;> simp only[zX,simprocAttr,i64,iD,bD,p,bV,List.length_nil,Int.natCast_zero,hc])
 |(with_reducible refine fL (fun hc=>?_) (fun hc=>?_) <;> simp only[zX,simprocAttr,i64,iD,bD,p,bV,List.length_nil,Int.natCast_zero,hc])
 |(with_reducible refine df (fun hc=>?_) (fun hc=>?_) <;> simp only[zX,simprocAttr,i64,iD,bD,p,bV,List.length_nil,Int.natCast_zero,hc]))
  all_goals
   rcases Bool.eq_false_or_eq_true re.neg with dJ|dJ
   all_goals
    try (exfalso;rw[dJ]at hc;exact absurd hc (by decide);done)
    try simp only[dJ,Bool.not_true,Bool.not_false]
    first
     |(first|refine congrArg bV (Eq.symm (Bool.eq_false_iff.2 fun h=>?_))|refine Eq.symm (Bool.eq_false_iff.2 fun h=>?_)
       simp only[bG,cj,p,dJ,Int.reduceEq,or_self,if_false,or_true,true_or,or_false,false_or,if_true,reduceIte,Bool.and_eq_true,decide_eq_true_eq,Bool.not_true,Bool.not_false,Bool.true_or,Bool.false_or,reduceCtorEq,Bool.false_eq_true,false_and,and_false,true_and,and_true,hv]at h
       try omega
       done)
     |(first|refine congrArg bV (Eq.symm ?_)|refine Eq.symm ?_
       simp only[bG,cj,p,dJ,Int.reduceEq,or_self,if_false,or_true,true_or,or_false,false_or,if_true,reduceIte,Bool.and_eq_true,decide_eq_true_eq,Bool.not_true,Bool.not_false,Bool.true_or,Bool.false_or,reduceCtorEq,Bool.false_eq_true,false_and,and_false,true_and,and_true,hv]
       try omega
       done)
 case inr.inl =>
  have IZ:BF re=true ↔ (0<=re.mn/\re.mn<=32/\0<=re.mode/\re.mode<=2/\(re.mx=-1\/(1<=re.mx/\re.mx<=32/\re.mn<=re.mx))):=by unfold BF;rw[decide_eq_true_eq]
  generalize hv:BF re=sv at Ro IZ
  cases sv
  all_goals
   simp only[Bool.false_eq_true,false_iff,true_iff]at IZ
   refine an func68 rfl ntmps68 results68 rfl 0 77371252473350734410155975 (by simp) (by simp) ?_
   simp only[zX,simprocAttr,i64,bm,Re.ae re,iD,bD,p,List.length_nil,Int.natCast_zero]
   repeat' (first
 |(with_reducible refine And.intro (by first|omega|exact⟨by omega,by omega⟩|(simp;done)) ?_)
 |(with_reducible refine jc (fun hc=>?_) (fun hc=>?_) <;> simp only[zX,simprocAttr,i64,iD,bD,p,List.length_nil,Int.natCast_zero,hc])
 |(with_reducible refine dj (fun hc=>?_) (fun hc=>?_) <;> simp only[zX,simprocAttr,i64,iD,bD,p,List.length_nil,Int.natCast_zero,hc])
 |(with_reducible refine di (fun hc=>?_) (fun hc=>?_) <;> simp only[zX,simprocAttr,i64,iD,bD,p,List.length_nil,Int.natCast_zero,hc])
 |(with_reducible refine cF (fun hc=>?_) (fun hc=>?_) <;> simp only[zX,simprocAttr,i64,iD,bD,p,List.length_nil,Int.natCast_zero,hc])
 |(with_reducible refine cE (fun hc=>?_) (fun hc=>?_) <;> simp only[zX,simprocAttr,i64,iD,bD,p,List.length_nil,Int.natCast_zero,hc])
 |(with_reducible refine fL (fun hc=>?_) (fun hc=>?_) <;> simp only[zX,simprocAttr,i64,iD,bD,p,List.length_nil,Int.natCast_zero,hc])
 |(with_reducible refine df (fun hc=>?_) (fun hc=>?_) <;> simp only[zX,simprocAttr,i64,iD,bD,p,List.length_nil,Int.natCast_zero,hc]))
  any_goals
   rw[p]at Ro
   refine al Ro (by simp [ah,ah.go,aj,i64,bV,bm]) (by simp [ah,ah.go,aj,i64,bV,bm]) ?_
   simp only[zX,simprocAttr,i64,iD,bD,p,bV,List.length_nil,Int.natCast_zero]
  any_goals
   repeat' (first
 |(with_reducible refine And.intro (by first|omega|exact⟨by omega,by omega⟩|(simp;done)) ?_)
 |(with_reducible refine jc (fun hc=>?_) (fun hc=>?_) <;> simp only[zX,simprocAttr,i64,iD,bD,p,bV,List.length_nil,Int.natCast_zero,hc])
 |(with_reducible refine dj (fun hc=>?_) (fun hc=>?_) <;> simp only[zX,simprocAttr,i64,iD,bD,p,bV,List.length_nil,Int.natCast_zero,hc])
 |(with_reducible refine di (fun hc=>?_) (fun hc=>?_) <;> simp only[zX,simprocAttr,i64,iD,bD,p,bV,List.length_nil,Int.natCast_zero,hc])
 |(with_reducible refine cF (fun hc=>?_) (fun hc=>?_) <;> simp only[zX,simprocAttr,i64,iD,bD,p,bV,List.length_nil,Int.natCast_zero,hc])
 |(with_reducible refine cE (fun hc=>?_) (fun hc=>?_) <;> simp only[zX,simprocAttr,i64,iD,bD,p,bV,List.length_nil,Int.natCast_zero,hc])
 |(with_reducible refine fL (fun hc=>?_) (fun hc=>?_) <;> simp only[zX,simprocAttr,i64,iD,bD,p,bV,List.length_nil,Int.natCast_zero,hc])
 |(with_reducible refine df (fun hc=>?_) (fun hc=>?_) <;> simp only[zX,simprocAttr,i64,iD,bD,p,bV,List.length_nil,Int.natCast_zero,hc]))
  all_goals
   rcases Bool.eq_false_or_eq_true re.neg with dJ|dJ
   all_goals
    try (exfalso;rw[dJ]at hc;exact absurd hc (by decide);done)
    try simp only[dJ,Bool.not_true,Bool.not_false]
    first
     |(first|refine congrArg bV (Eq.symm (Bool.eq_false_iff.2 fun h=>?_))|refine Eq.symm (Bool.eq_false_iff.2 fun h=>?_)
       simp only[bG,cj,p,dJ,Int.reduceEq,or_self,if_false,or_true,true_or,or_false,false_or,if_true,reduceIte,Bool.and_eq_true,decide_eq_true_eq,Bool.not_true,Bool.not_false,Bool.true_or,Bool.false_or,reduceCtorEq,Bool.false_eq_true,false_and,and_false,true_and,and_true]at h
       try omega
       done)
     |(first|refine congrArg bV (Eq.symm ?_)|refine Eq.symm ?_
       simp only[bG,cj,p,dJ,Int.reduceEq,or_self,if_false,or_true,true_or,or_false,false_or,if_true,reduceIte,Bool.and_eq_true,decide_eq_true_eq,Bool.not_true,Bool.not_false,Bool.true_or,Bool.false_or,reduceCtorEq,Bool.false_eq_true,false_and,and_false,true_and,and_true]
       try omega
       done)
theorem LY (re:Re) (hf:re.dG=true) (ai top:Int) (ht:top<=1114111) (sK:re.op=0\/re.op=2\/re.op=3):ba prog 68 [bm re,i64 ai,i64 top] (bV (bG re ai top)):=by
 obtain⟨pq,hlen,FK⟩:=Re.fr hf
 rcases sK with p|p|p
 all_goals
  refine an func68 rfl ntmps68 results68 rfl 0 77371252473350734410155975 (by simp) (by simp) ?_
  simp only[zX,simprocAttr,i64,bm,Re.ae re,iD,bD,p]
  repeat' (first
 |(with_reducible refine And.intro (by first|omega|exact⟨by omega,by omega⟩|(simp;done)) ?_)
 |(with_reducible refine jc (fun hc=>?_) (fun hc=>?_) <;> simp only[zX,simprocAttr,i64,iD,bD,p,hc])
 |(with_reducible refine dj (fun hc=>?_) (fun hc=>?_) <;> simp only[zX,simprocAttr,i64,iD,bD,p,hc])
 |(with_reducible refine di (fun hc=>?_) (fun hc=>?_) <;> simp only[zX,simprocAttr,i64,iD,bD,p,hc])
 |(with_reducible refine cF (fun hc=>?_) (fun hc=>?_) <;> simp only[zX,simprocAttr,i64,iD,bD,p,hc])
 |(with_reducible refine cE (fun hc=>?_) (fun hc=>?_) <;> simp only[zX,simprocAttr,i64,iD,bD,p,hc])
 |(with_reducible refine fL (fun hc=>?_) (fun hc=>?_) <;> simp only[zX,simprocAttr,i64,iD,bD,p,hc])
 |(with_reducible refine df (fun hc=>?_) (fun hc=>?_) <;> simp only[zX,simprocAttr,i64,iD,bD,p,hc]))
 all_goals
  rcases Bool.eq_false_or_eq_true re.neg with dJ|dJ
  all_goals
   try (exfalso;rw[dJ]at hc;exact absurd hc (by decide);done)
   try simp only[dJ,Bool.not_true,Bool.not_false]
   first
    |(refine congrArg bV (Eq.symm (Bool.eq_false_iff.2 fun h=>?_))
      simp only[bG,cj,p,dJ,Int.reduceEq,or_self,if_false,or_true,true_or,or_false,false_or,if_true,reduceIte,Bool.and_eq_true,decide_eq_true_eq,Bool.not_true,Bool.not_false,Bool.true_or,Bool.false_or,reduceCtorEq,Bool.false_eq_true,false_and,and_false,true_and,and_true]at h
      try omega
      done)
    |(refine congrArg bV (Eq.symm ?_)
      simp only[bG,cj,p,dJ,Int.reduceEq,or_self,if_false,or_true,true_or,or_false,false_or,if_true,reduceIte,Bool.and_eq_true,decide_eq_true_eq,Bool.not_true,Bool.not_false,Bool.true_or,Bool.false_or,reduceCtorEq,Bool.false_eq_true,false_and,and_false,true_and,and_true]
      try omega
      done)
theorem L9 (re:Re) (hf:re.dG=true) (ai top:Int) (ht:top<=1114111) (sK:re.op=5\/re.op=6\/re.op=7):ba prog 68 [bm re,i64 ai,i64 top] (bV (bG re ai top)):=by
 obtain⟨pq,hlen,FK⟩:=Re.fr hf
 rcases sK with p|p|p
 all_goals
  refine an func68 rfl ntmps68 results68 rfl 0 77371252473350734410155975 (by simp) (by simp) ?_
  simp only[zX,simprocAttr,i64,bm,Re.ae re,iD,bD,p]
  repeat' (first
 |(with_reducible refine And.intro (by first|omega|exact⟨by omega,by omega⟩|(simp;done)) ?_)
 |(with_reducible refine jc (fun hc=>?_) (fun hc=>?_) <;> simp only[zX,simprocAttr,i64,iD,bD,p,hc])
 |(with_reducible refine dj (fun hc=>?_) (fun hc=>?_) <;> simp only[zX,simprocAttr,i64,iD,bD,p,hc])
 |(with_reducible refine di (fun hc=>?_) (fun hc=>?_) <;> simp only[zX,simprocAttr,i64,iD,bD,p,hc])
 |(with_reducible refine cF (fun hc=>?_) (fun hc=>?_) <;> simp only[zX,simprocAttr,i64,iD,bD,p,hc])
 |(with_reducible refine cE (fun hc=>?_) (fun hc=>?_) <;> simp only[zX,simprocAttr,i64,iD,bD,p,hc])
 |(with_reducible refine fL (fun hc=>?_) (fun hc=>?_) <;> simp only[zX,simprocAttr,i64,iD,bD,p,hc])
 |(with_reducible refine df (fun hc=>?_) (fun hc=>?_) <;> simp only[zX,simprocAttr,i64,iD,bD,p,hc]))
 all_goals
  rcases Bool.eq_false_or_eq_true re.neg with dJ|dJ
  all_goals
   try (exfalso;rw[dJ]at hc;exact absurd hc (by decide);done)
   try simp only[dJ,Bool.not_true,Bool.not_false]
   first
    |(refine congrArg bV (Eq.symm (Bool.eq_false_iff.2 fun h=>?_))
      simp only[bG,cj,p,dJ,Int.reduceEq,or_self,if_false,or_true,true_or,or_false,false_or,if_true,reduceIte,Bool.and_eq_true,decide_eq_true_eq,Bool.not_true,Bool.not_false,Bool.true_or,Bool.false_or,reduceCtorEq,Bool.false_eq_true,false_and,and_false,true_and,and_true]at h
      try omega
      done)
    |(refine congrArg bV (Eq.symm ?_)
      simp only[bG,cj,p,dJ,Int.reduceEq,or_self,if_false,or_true,true_or,or_false,false_or,if_true,reduceIte,Bool.and_eq_true,decide_eq_true_eq,Bool.not_true,Bool.not_false,Bool.true_or,Bool.false_or,reduceCtorEq,Bool.false_eq_true,false_and,and_false,true_and,and_true]
      try omega
      done)
theorem K2 (re:Re) (hf:re.dG=true) (ai top:Int) (ht:top<=1114111) (sK:re.op=8\/re.op=9):ba prog 68 [bm re,i64 ai,i64 top] (bV (bG re ai top)):=by
 obtain⟨pq,hlen,FK⟩:=Re.fr hf
 rcases sK with p|p
 all_goals
  refine an func68 rfl ntmps68 results68 rfl 0 77371252473350734410155975 (by simp) (by simp) ?_
  simp only[zX,simprocAttr,i64,bm,Re.ae re,iD,bD,p]
  repeat' (first
 |(with_reducible refine And.intro (by first|omega|exact⟨by omega,by omega⟩|(simp;done)) ?_)
 |(with_reducible refine jc (fun hc=>?_) (fun hc=>?_) <;> simp only[zX,simprocAttr,i64,iD,bD,p,hc])
 |(with_reducible refine dj (fun hc=>?_) (fun hc=>?_) <;> simp only[zX,simprocAttr,i64,iD,bD,p,hc])
 |(with_reducible refine di (fun hc=>?_) (fun hc=>?_) <;> simp only[zX,simprocAttr,i64,iD,bD,p,hc])
 |(with_reducible refine cF (fun hc=>?_) (fun hc=>?_) <;> simp only[zX,simprocAttr,i64,iD,bD,p,hc])
 |(with_reducible refine cE (fun hc=>?_) (fun hc=>?_) <;> simp only[zX,simprocAttr,i64,iD,bD,p,hc])
 |(with_reducible refine fL (fun hc=>?_) (fun hc=>?_) <;> simp only[zX,simprocAttr,i64,iD,bD,p,hc])
 |(with_reducible refine df (fun hc=>?_) (fun hc=>?_) <;> simp only[zX,simprocAttr,i64,iD,bD,p,hc]))
 all_goals
  rcases Bool.eq_false_or_eq_true re.neg with dJ|dJ
  all_goals
   try (exfalso;rw[dJ]at hc;exact absurd hc (by decide);done)
   try simp only[dJ,Bool.not_true,Bool.not_false]
   first
    |(refine congrArg bV (Eq.symm (Bool.eq_false_iff.2 fun h=>?_))
      simp only[bG,cj,p,dJ,Int.reduceEq,or_self,if_false,or_true,true_or,or_false,false_or,if_true,reduceIte,Bool.and_eq_true,decide_eq_true_eq,Bool.not_true,Bool.not_false,Bool.true_or,Bool.false_or,reduceCtorEq,Bool.false_eq_true,false_and,and_false,true_and,and_true]at h
      try omega
      done)
    |(refine congrArg bV (Eq.symm ?_)
      simp only[bG,cj,p,dJ,Int.reduceEq,or_self,if_false,or_true,true_or,or_false,false_or,if_true,reduceIte,Bool.and_eq_true,decide_eq_true_eq,Bool.not_true,Bool.not_false,Bool.true_or,Bool.false_or,reduceCtorEq,Bool.false_eq_true,false_and,and_false,true_and,and_true]
      try omega
      done)
theorem LK (re:Re) (hf:re.dG=true) (ai top:Int) (ht:top<=1114111) (sK:re.op=10\/re.op=11):ba prog 68 [bm re,i64 ai,i64 top] (bV (bG re ai top)):=by
 obtain⟨pq,hlen,FK⟩:=Re.fr hf
 rcases sK with p|p
 all_goals
  refine an func68 rfl ntmps68 results68 rfl 0 77371252473350734410155975 (by simp) (by simp) ?_
  simp only[zX,simprocAttr,i64,bm,Re.ae re,iD,bD,p]
  repeat' (first
 |(with_reducible refine And.intro (by first|omega|exact⟨by omega,by omega⟩|(simp;done)) ?_)
 |(with_reducible refine jc (fun hc=>?_) (fun hc=>?_) <;> simp only[zX,simprocAttr,i64,iD,bD,p,hc])
 |(with_reducible refine dj (fun hc=>?_) (fun hc=>?_) <;> simp only[zX,simprocAttr,i64,iD,bD,p,hc])
 |(with_reducible refine di (fun hc=>?_) (fun hc=>?_) <;> simp only[zX,simprocAttr,i64,iD,bD,p,hc])
 |(with_reducible refine cF (fun hc=>?_) (fun hc=>?_) <;> simp only[zX,simprocAttr,i64,iD,bD,p,hc])
 |(with_reducible refine cE (fun hc=>?_) (fun hc=>?_) <;> simp only[zX,simprocAttr,i64,iD,bD,p,hc])
 |(with_reducible refine fL (fun hc=>?_) (fun hc=>?_) <;> simp only[zX,simprocAttr,i64,iD,bD,p,hc])
 |(with_reducible refine df (fun hc=>?_) (fun hc=>?_) <;> simp only[zX,simprocAttr,i64,iD,bD,p,hc]))
 all_goals
  rcases Bool.eq_false_or_eq_true re.neg with dJ|dJ
  all_goals
   try (exfalso;rw[dJ]at hc;exact absurd hc (by decide);done)
   try simp only[dJ,Bool.not_true,Bool.not_false]
   first
    |(refine congrArg bV (Eq.symm (Bool.eq_false_iff.2 fun h=>?_))
      simp only[bG,cj,p,dJ,Int.reduceEq,or_self,if_false,or_true,true_or,or_false,false_or,if_true,reduceIte,Bool.and_eq_true,decide_eq_true_eq,Bool.not_true,Bool.not_false,Bool.true_or,Bool.false_or,reduceCtorEq,Bool.false_eq_true,false_and,and_false,true_and,and_true]at h
      try omega
      done)
    |(refine congrArg bV (Eq.symm ?_)
      simp only[bG,cj,p,dJ,Int.reduceEq,or_self,if_false,or_true,true_or,or_false,false_or,if_true,reduceIte,Bool.and_eq_true,decide_eq_true_eq,Bool.not_true,Bool.not_false,Bool.true_or,Bool.false_or,reduceCtorEq,Bool.false_eq_true,false_and,and_false,true_and,and_true]
      try omega
      done)
theorem I0 (re:Re) (hf:re.dG=true) (ai top:Int) (ht:top<=1114111):ba prog 68 [bm re,i64 ai,i64 top] (bV (bG re ai top)):=by
 have hc:(re.op=0\/re.op=2\/re.op=3)\/(re.op=5\/re.op=6\/re.op=7)\/(re.op=8\/re.op=9)\/(re.op=10\/re.op=11)\/(re.op=1\/re.op=4\/(¬re.op=0/\¬re.op=1/\¬re.op=2/\¬re.op=3/\¬re.op=4/\¬re.op=5/\¬re.op=6/\¬re.op=7/\¬re.op=8/\¬re.op=9/\¬re.op=10/\¬re.op=11)):=by omega
 rcases hc with h|h|h|h|h
 ·exact LY re hf ai top ht h
 ·exact L9 re hf ai top ht h
 ·exact K2 re hf ai top ht h
 ·exact LK re hf ai top ht h
 ·exact K8 re hf ai top ht h
mutual
def Re.vw (ai top:Int):Re->Int->Int->Bool->Bool×Int×Bool
 |.mk op set kids mn mx mode n neg,d,sz,g =>
  if 256<sz+1\/24<d then (false,sz+1,g) else Re.oX ai top kids (d+1) (sz+1) (g&&bG (.mk op set kids mn mx mode n neg) ai top)
def Re.oX (ai top:Int):List Re->Int->Int->Bool->Bool×Int×Bool
 |[],_,sz,g=>(true,sz,g)
 |k::l,d,sz,g=>if (Re.vw ai top k d sz g).1=true then Re.oX ai top l d (Re.vw ai top k d sz g).2.1 (Re.vw ai top k d sz g).2.2 else Re.vw ai top k d sz g
end
theorem Re.OU (ai top:Int) (re:Re) (d sz:Int) (g:Bool):re.vw ai top d sz g=if 256<sz+1\/24<d then (false,sz+1,g) else Re.oX ai top re.kids (d+1) (sz+1) (g&&bG re ai top):=by
 cases re;simp [Re.vw,Re.kids]
theorem Re.sV (ai top:Int):∀(a b:List Re) (d sz:Int) (g:Bool),Re.oX ai top (a++b) d sz g=if (Re.oX ai top a d sz g).1=true then Re.oX ai top b d (Re.oX ai top a d sz g).2.1 (Re.oX ai top a d sz g).2.2 else Re.oX ai top a d sz g
 |[],b,d,sz,g=>by simp [Re.oX]
 |k::a,b,d,sz,g=>by
  simp only[List.cons_append,Re.oX]
  split
  ·exact Re.sV ai top a b d _ _
  ·rename_i h;first|rfl|rw[if_neg h]
theorem Re.Ki (ai top:Int) (a:List Re) (k:Re) (d sz:Int) (g:Bool) (h:(Re.oX ai top a d sz g).1=true):Re.oX ai top (a++[k]) d sz g=k.vw ai top d (Re.oX ai top a d sz g).2.1 (Re.oX ai top a d sz g).2.2:=by
 rw[Re.sV,if_pos h]
 simp only[Re.oX]
 split
 ·rename_i hk
  exact Prod.ext hk.symm rfl
 ·rfl
def PF (ai top:Int) (re:Re):Prop:=∀(d sz:Int) (g:Bool),0<=sz->sz<=256 ->
 ((re.vw ai top d sz g).1=true ↔ (sz+re.size<=256/\d+re.depth-1<=24))/\0<=(re.vw ai top d sz g).2.1/\(re.vw ai top d sz g).2.1<=257 /\
 ((re.vw ai top d sz g).1=true->(re.vw ai top d sz g).2.1=sz+re.size/\(re.vw ai top d sz g).2.2=(g&&re.whole ai top))
theorem GC (ai top:Int):∀(l:List Re),(∀k∈l,PF ai top k)->∀(d sz:Int) (g:Bool),0<=sz->sz<=256 ->
  ((Re.oX ai top l d sz g).1=true ↔ (sz+Re.cR l<=256/\∀k∈l,d+k.depth-1<=24))/\0<=(Re.oX ai top l d sz g).2.1/\(Re.oX ai top l d sz g).2.1<=257 /\
  ((Re.oX ai top l d sz g).1=true->(Re.oX ai top l d sz g).2.1=sz+Re.cR l/\(Re.oX ai top l d sz g).2.2=(g&&l.all fun k=>k.whole ai top))
 |[],_,d,sz,g,h0,h1=>by
  simp only[Re.oX,Re.cR]
  exact⟨⟨fun _=>⟨by omega,fun k hk=>by cases hk⟩,fun _=>trivial⟩,h0,by omega,fun _=>⟨by omega,by simp⟩⟩
 |k::l,hk,d,sz,g,h0,h1=>by
  obtain⟨a1,a2,a3,a4⟩:=hk k (by simp) d sz g h0 h1
  simp only[Re.oX,Re.cR]
  split
  ·rename_i ht
   obtain⟨b1,b2⟩:=a4 ht
   obtain⟨c1,c2⟩:=a1.1 ht
   obtain⟨e1,e2,e3,e4⟩:=GC ai top l (fun x hx=>hk x (by simp [hx])) d (k.vw ai top d sz g).2.1 (k.vw ai top d sz g).2.2 a2 (by omega)
   refine⟨?_,e2,e3,fun h=>?_⟩
   ·rw[e1,b1]
    constructor
    ·rintro ⟨f1,f2⟩
     refine⟨by omega,fun x hx=>?_⟩
     rcases List.mem_cons.1 hx with rfl|hx
     ·exact c2
     ·exact f2 x hx
    ·rintro ⟨f1,f2⟩
     exact⟨by omega,fun x hx=>f2 x (by simp [hx])⟩
   ·obtain⟨f1,f2⟩:=e4 h
    refine⟨by omega,?_⟩
    rw[f2,b2,List.all_cons,Bool.and_assoc]
  ·rename_i ht
   refine⟨⟨fun h=>absurd h ht,fun ⟨f1,f2⟩=>absurd (a1.2 ⟨by omega,f2 k (by simp)⟩) ht⟩,a2,a3,fun h=>absurd h ht⟩
theorem Bq (re:Re) (b:Int) (hb:0<=b):re.depth-1<=b ↔ ∀k∈re.kids,k.depth<=b:=by
 rw[Re.pK]
 constructor
 ·intro h k hk
  have:∀(l:List Int) (a x:Int),x∈l->x<=l.foldl max a:=by
   intro l
   induction l with
   |nil=>intro a x hx;cases hx
   |cons y l ih =>
    intro a x hx
    rcases List.mem_cons.1 hx with rfl|hx
    ·exact Int.le_trans (by omega) (lH l (max a x))
    ·exact ih (max a y) x hx
  have:=this (re.kids.map Re.depth) 0 k.depth (List.mem_map.2 ⟨k,hk,rfl⟩)
  unfold tg at h
  omega
 ·intro h
  have:=lB (b:=b) (re.kids.map Re.depth) 0 hb (fun x hx=>by obtain⟨k,hk,rfl⟩:=List.mem_map.1 hx;exact h k hk)
  unfold tg
  omega
theorem Ok (ai top:Int) (re:Re):PF ai top re:=by
 refine Re.ind (Q:=PF ai top) (fun re ih=>?_) re
 intro d sz g h0 h1
 have hd:=Re.Du re
 have hp:=re.size_pos
 rw[Re.OU,Re.size_eq]
 split
 ·rename_i hc
  simp only
  refine⟨⟨fun h=>(by cases h),fun h=>?_⟩,by omega,by omega,fun h=>(by cases h)⟩
  have ZI:1<=re.depth:=by rw[Re.pK];have:=lH (re.kids.map Re.depth) 0;unfold tg;omega
  omega
 ·rename_i hc
  obtain⟨a1,a2,a3,a4⟩:=GC ai top re.kids ih (d+1) (sz+1) (g&&bG re ai top) (by omega) (by omega)
  refine⟨?_,a2,a3,fun h=>?_⟩
  ·rw[a1]
   have PI:=Bq re (24-d) (by omega)
   constructor
   ·rintro ⟨f1,f2⟩
    have:=PI.2 (fun k hk=>by have:=f2 k hk;omega)
    omega
   ·rintro ⟨f1,f2⟩
    have:=PI.1 (by omega)
    exact⟨by omega,fun k hk=>by have:=this k hk;omega⟩
  ·obtain⟨f1,f2⟩:=a4 h
   refine⟨by omega,?_⟩
   rw[f2,Bool.and_assoc]
   congr 1
   unfold Re.whole
   rw[Bool.eq_iff_iff,Bool.and_eq_true,Re.aS,List.all_eq_true]
def gO (g:Bool):VL.Obj:=⟨0,true,1,[[bV g]]⟩
def nP (lv:Bool) (p:jl):VL.Obj:=⟨0,lv,10,[(Cy p).map .d]⟩
def gG (f:FuncId):VL.Obj:=⟨0,true,1,[[.cl (.func f) [] [.rf 0 0 0 0,.rf 1 0 0 0,.rf 2 0 0 0,.rf 3 0 0 0,.rf 4 0 0 0]]]⟩
def Oa (p:jl) (top:Int) (re:Re):Prop:=∀(d sz:Int) (g lv:Bool) (pv:V),(pv=.rf 2 0 0 0\/pv=.d (.el (Cy p)))->0<=d->d<=25->0<=sz->sz<=256 ->
 aq prog 67 [bm re,i64 d,.rf 0 0 0 0,.rf 1 0 0 0,pv,.rf 3 0 0 0,.rf 4 0 0 0] [lR sz,gO g,nP lv p,lR top,gG 67]
  fun v s=>v=bV (re.vw p.ai top d sz g).1/\s=[lR (re.vw p.ai top d sz g).2.1,gO (re.vw p.ai top d sz g).2.2,nP lv p,lR top,gG 67]
theorem JE (p:jl) (top:Int) (ht:top<=1114111) (re:Re) (hf:re.dG=true):Oa p top re:=by
 revert hf
 refine Re.ind (Q:=fun re=>re.dG=true->Oa p top re) (fun re ih hf=>?_) re
 obtain⟨pq,hlen,FK⟩:=Re.fr hf
 have Od:=I0 re hf p.ai top ht
 rw[bm,Re.ae]at Od
 simp only[i64,iD,bD]at Od
 intro d sz g lv pv kU ef np pk gX
 have w1:IntKind.i64.wrap (sz+1)=sz+1:=br _ (by omega)
 have w2:IntKind.i64.wrap (d+1)=d+1:=br _ (by omega)
 rw[Re.OU]
 by_cases hc:256<sz+1\/24<d
 ·rw[if_pos hc]
  have rQ:256<sz+1\/(¬256<sz+1/\24<d):=by omega
  refine an func67 rfl ntmps67 results67 rfl 5 6442452607 (by simp) (by simp) ?_
  rcases rQ with c1|⟨c1,c2⟩
  ·simp only[zX,simprocAttr,i64,bm,Re.ae re,iD,bD,lR,gO,nP,gk p,gG,bV,w1,c1]
   all_goals first|exact⟨rfl,rfl⟩|exact⟨rfl,trivial⟩|rfl|trivial|(rw[aj];rfl)
  ·simp only[zX,simprocAttr,i64,bm,Re.ae re,iD,bD,lR,gO,nP,gk p,gG,bV,w1,c1,c2]
   all_goals first|exact⟨rfl,rfl⟩|exact⟨rfl,trivial⟩|rfl|trivial|(rw[aj];rfl)
 rw[if_neg hc]
 have c1:¬256<sz+1:=fun h=>hc (.inl h)
 have c2:¬24<d:=fun h=>hc (.inr h)
 generalize hG:(g&&bG re p.ai top)=G
 rcases kU with rfl|rfl
 all_goals
  cases g
  all_goals
   refine an func67 rfl ntmps67 results67 rfl 5 6442452607 (by simp) (by simp) ?_
   simp only[zX,simprocAttr,i64,bm,Re.ae re,iD,bD,lR,gO,nP,gk p,gG,bV,w1,c1,c2]
   try
    rw[Bool.true_and]at hG
    rw[hG]at Od
    refine al Od (by simp [ah,ah.go,aj,i64,bV,bm]) (by simp [ah,ah.go,aj,i64,bV,bm]) ?_
    simp only[zX,simprocAttr,i64,iD,bD,bV]
   refine ay (fun n e s=>∃i:Nat,n=re.kids.length-i/\i<=re.kids.length/\e 0=bm re/\e 1=i64 d/\e 6=.rf 4 0 0 0/\e 31=i64 re.kids.length/\e 32=i64 i /\
     (Re.oX p.ai top (re.kids.take i) (d+1) (sz+1) G).1=true /\
     s=[lR (Re.oX p.ai top (re.kids.take i) (d+1) (sz+1) G).2.1,gO (Re.oX p.ai top (re.kids.take i) (d+1) (sz+1) G).2.2,nP lv p,lR top,gG 67])
    ⟨_,_,_,bI.refl,0,rfl,by omega,by simp [bm,Re.ae re,iD,bD];rfl,rfl,rfl,rfl,rfl,rfl,by simp only[List.take_zero,Re.oX,lR,gO,nP,gk p,gG,i64,bV,iD,bD,List.map_cons,List.map_nil,<- hG,Bool.false_and]⟩ ?_
   rintro n e s ⟨i,rfl,hi,h0,h1,h6,Rb,ze,bM,rfl⟩
   have PV:=GC p.ai top (re.kids.take i) (fun k _=>Ok p.ai top k) (d+1) (sz+1) G (by omega) (by omega)
   obtain⟨b1,b2⟩:=PV.2.2.2 bM
   have b3:=(PV.1.1 bM).1
   have b4:=PV.2.1
   rcases Nat.lt_or_ge i re.kids.length with az|ib
   ·obtain⟨k,hk⟩:∃k,re.kids[i]?=some k:=⟨_,List.getElem?_eq_getElem az⟩
    have hm:=List.mem_of_getElem? hk
    have KL:=Re.Ki p.ai top (re.kids.take i) k (d+1) (sz+1) G bM
    rw[<- bt hk]at KL
    have RS:Re.oX p.ai top re.kids (d+1) (sz+1) G=if (Re.oX p.ai top (re.kids.take (i+1)) (d+1) (sz+1) G).1=true then Re.oX p.ai top (re.kids.drop (i+1)) (d+1) (Re.oX p.ai top (re.kids.take (i+1)) (d+1) (sz+1) G).2.1 (Re.oX p.ai top (re.kids.take (i+1)) (d+1) (sz+1) G).2.2 else Re.oX p.ai top (re.kids.take (i+1)) (d+1) (sz+1) G:=by
     rw[<- Re.sV,List.take_append_drop]
    have rN:=ih k hm (FK k hm) (d+1) (Re.oX p.ai top (re.kids.take i) (d+1) (sz+1) G).2.1 (Re.oX p.ai top (re.kids.take i) (d+1) (sz+1) G).2.2 lv (.rf 2 0 0 0) (.inl rfl) (by omega) (by omega) b4 (by omega)
    rw[<- KL]at rN
    simp only[nP,gk p,iD,bD,List.map_cons,List.map_nil]at rN
    generalize Re.oX p.ai top (re.kids.take i) (d+1) (sz+1) G=A at *
    generalize hB:Re.oX p.ai top (re.kids.take (i+1)) (d+1) (sz+1) G=B at *
    obtain⟨B1,B2,B3⟩:=B
    simp only[zX,simprocAttr,i64,lR,gO,nP,gk p,gG,bV,h0,h1,h6,Rb,ze,az]
    refine ar mix [] [(0,[4],[]),(9,[0,1,2,3,4],[0,1,2,3,4])] (by rfl) ?_
    simp only[zX,simprocAttr,i64,lR,gO,nP,gk p,gG,bV,bm,Re.ae re,iD,bD,h0,h1,h6,Rb,ze,az,hk,w2]
    refine Fo rN (by intro j hj;simp only[List.length_cons,List.length_nil]at hj;simp only[List.mem_cons,List.not_mem_nil,or_false];omega) rfl rfl ?_
    cases B1 with
    |false =>
     simp only[Bool.false_eq_true,if_false]at RS
     rw[RS]
     simp only[zX,simprocAttr,i64,lR,gO,nP,gk p,gG,bV,h0,h1,h6,Rb,ze]
     all_goals first|exact⟨rfl,rfl⟩|exact⟨rfl,trivial⟩|rfl|trivial|(rw[aj];rfl)
    |true =>
     simp only[zX,simprocAttr,i64,lR,gO,bV,h0,h1,h6,Rb,ze]
     refine⟨re.kids.length-(i+1),_,_,by omega,bI.refl,i+1,rfl,az,?_,?_,?_,?_,?_,by rw[hB],?_⟩ <;> (try simp only[zU,Nat.reduceBEq,Nat.reduceShiftRight,Nat.reduceMod,Nat.reduceEqDiff,reduceIte])
     ·simpa [bm,Re.ae re,iD,bD]using h0
     ·exact h1
     ·exact h6
     ·exact Rb
     ·rw[br _ (by omega)];rfl
     ·rw[hB];simp only[nP,gk p,iD,bD,List.map_cons,List.map_nil];rfl
   ·have eQ:i=re.kids.length:=by omega
    subst eQ
    rw[List.take_length]at *
    simp only[zX,simprocAttr,i64,lR,gO,nP,gk p,gG,bV,h0,h1,h6,Rb,ze,Nat.lt_irrefl]
    rw[bM]
    all_goals first|exact⟨rfl,rfl⟩|exact⟨rfl,trivial⟩|rfl|trivial|(rw[aj];rfl)
end Go.Proofs.Ytfmdmlfhigocaaa
