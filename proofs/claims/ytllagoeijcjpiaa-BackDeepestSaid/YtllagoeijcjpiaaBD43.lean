/- A part of the proof (F47). -/
import Derived.Test.YtllagoeijcjpiaaBD42
set_option linter.unusedSimpArgs false
set_option linter.unusedVariables false
set_option maxRecDepth 100000
set_option maxHeartbeats 80000000
set_option linter.unusedSimpArgs false
set_option linter.unusedVariables false
namespace Go.Proofs.Ytllagoeijcjpiaa
open Go.VL Go.Proofs.Try
theorem JH (re:Re) (hf:re.gi=true) (ai top:Int) (ht:top≤1114111) (JK:re.op=1∨re.op=4∨(¬re.op=0∧¬re.op=1∧¬re.op=2∧¬re.op=3∧¬re.op=4∧¬re.op=5∧¬re.op=6∧¬re.op=7∧¬re.op=8∧¬re.op=9∧¬re.op=10∧¬re.op=11)):bI prog 92 [ck re,i64 ai,i64 top] (bV (cg re ai top)):=by
 obtain⟨oT,hlen,JR⟩:=Re.ie hf
 have eD:=xI re.set oT top ht
 have Pc:=EW re
 rw[ck,Re.ae]at Pc
 simp only[i64,iD,bD]at eD Pc
 rcases JK with p|p|⟨p0,p1,p2,p3,p4,p5,p6,p7,p8,p9,Rh,SV⟩
 case inr.inr =>
  rw[show cg re ai top=false by simp only[cg];rw[decide_eq_false (by omega)];rfl]
  by_cases n1:1≤re.n
  ·by_cases n2:re.n≤ai
   ·refine av func92 rfl ntmps92 results92 rfl 0 77371252473350734410155975 (by simp) (by simp) ?_
    simp only[zX,simprocAttr,i64,ck,Re.ae re,iD,bD,p0,p1,p2,p3,p4,p5,p6,p7,p8,p9,Rh,SV,n1,n2]
    all_goals first|exact⟨rfl,rfl⟩|exact⟨rfl,trivial⟩|rfl|trivial|(rw[aw];rfl)
   ·refine av func92 rfl ntmps92 results92 rfl 0 77371252473350734410155975 (by simp) (by simp) ?_
    simp only[zX,simprocAttr,i64,ck,Re.ae re,iD,bD,p0,p1,p2,p3,p4,p5,p6,p7,p8,p9,Rh,SV,n1,n2]
    all_goals first|exact⟨rfl,rfl⟩|exact⟨rfl,trivial⟩|rfl|trivial|(rw[aw];rfl)
  ·refine av func92 rfl ntmps92 results92 rfl 0 77371252473350734410155975 (by simp) (by simp) ?_
   simp only[zX,simprocAttr,i64,ck,Re.ae re,iD,bD,p0,p1,p2,p3,p4,p5,p6,p7,p8,p9,Rh,SV,n1]
   all_goals first|exact⟨rfl,rfl⟩|exact⟨rfl,trivial⟩|rfl|trivial|(rw[aw];rfl)
 case inl =>
  generalize hv:gV re.set top=sv at eD
  cases sv
  all_goals
   refine av func92 rfl ntmps92 results92 rfl 0 77371252473350734410155975 (by simp) (by simp) ?_
   simp only[zX,simprocAttr,i64,ck,Re.ae re,iD,bD,p,VK,VG]
   repeat' (first
 |(with_reducible refine And.intro (by first|omega|exact⟨by omega,by omega⟩|(simp;done)) ?_)
 |(with_reducible refine jz (fun hc=>?_) (fun hc=>?_) <;> simp only[zX,simprocAttr,i64,iD,bD,p,VK,VG,hc])
 |(with_reducible refine dX (fun hc=>?_) (fun hc=>?_) <;> simp only[zX,simprocAttr,i64,iD,bD,p,VK,VG,hc])
 |(with_reducible refine dW (fun hc=>?_) (fun hc=>?_) <;> simp only[zX,simprocAttr,i64,iD,bD,p,VK,VG,hc])
 |(with_reducible refine dr (fun hc=>?_) (fun hc=>?_) <;> simp only[zX,simprocAttr,i64,iD,bD,p,VK,VG,hc])
 |(with_reducible refine dp (fun hc=>?_) (fun hc=>?_) <;> simp only[zX,simprocAttr,i64,iD,bD,p,VK,VG,hc])
 |(with_reducible refine gr (fun hc=>?_) (fun hc=>?_) <;> simp only[zX,simprocAttr,i64,iD,bD,p,VK,VG,hc])
 |(with_reducible refine dS (fun hc=>?_) (fun hc=>?_) <;> simp only[zX,simprocAttr,i64,iD,bD,p,VK,VG,hc]))
  any_goals
   refine aE eD (by simp [ar,ar.go,aw,i64,bV,ck]) (by simp [ar,ar.go,aw,i64,bV,ck]) ?_
   simp only[zX,simprocAttr,i64,iD,bD,p,bV,VK,VG]
  any_goals
   repeat' (first
 |(with_reducible refine And.intro (by first|omega|exact⟨by omega,by omega⟩|(simp;done)) ?_)
 |(with_reducible refine jz (fun hc=>?_) (fun hc=>?_) <;> simp only[zX,simprocAttr,i64,iD,bD,p,bV,VK,VG,hc])
 |(with_reducible refine dX (fun hc=>?_) (fun hc=>?_) <;> simp only[zX,simprocAttr,i64,iD,bD,p,bV,VK,VG,hc])
 |(with_reducible refine dW (fun hc=>?_) (fun hc=>?_) <;> simp only[zX,simprocAttr,i64,iD,bD,p,bV,VK,VG,hc])
 |(with_reducible refine dr (fun hc=>?_) (fun hc=>?_) <;> simp only[zX,simprocAttr,i64,iD,bD,p,bV,VK,VG,hc])
 |(with_reducible refine dp (fun hc=>?_) (fun hc=>?_) <;> simp only[zX,simprocAttr,i64,iD,bD,p,bV,VK,VG,hc])
 |(with_reducible refine gr (fun hc=>?_) (fun hc=>?_) <;> simp only[zX,simprocAttr,i64,iD,bD,p,bV,VK,VG,hc])
 |(with_reducible refine dS (fun hc=>?_) (fun hc=>?_) <;> simp only[zX,simprocAttr,i64,iD,bD,p,bV,VK,VG,hc]))
  all_goals
   rcases Wr re.neg with ca|ca
   all_goals
    try (exfalso;rw[ca]at hc;exact absurd hc (by decide);done)
    try simp only[ca,Vs,Vt]
    first
     |(first|refine congrArg bV (Eq.symm (Bool.eq_false_iff.2 fun h=>?_))|refine Eq.symm (Bool.eq_false_iff.2 fun h=>?_)
       simp only[cg,da,p,ca,Int.reduceEq,or_self,if_false,or_true,true_or,or_false,false_or,if_true,reduceIte,VE,decide_eq_true_eq,Vs,Vt,VV,VM,reduceCtorEq,Vw,false_and,and_false,true_and,and_true,hv]at h
       try omega
       done)
     |(first|refine congrArg bV (Eq.symm ?_)|refine Eq.symm ?_
       simp only[cg,da,p,ca,Int.reduceEq,or_self,if_false,or_true,true_or,or_false,false_or,if_true,reduceIte,VE,decide_eq_true_eq,Vs,Vt,VV,VM,reduceCtorEq,Vw,false_and,and_false,true_and,and_true,hv]
       try omega
       done)
 case inr.inl =>
  have Lb:Av re=true ↔ (0≤re.mn∧re.mn≤32∧0≤re.mode∧re.mode≤2∧(re.mx=-1∨(1≤re.mx∧re.mx≤32∧re.mn≤re.mx))):=by unfold Av;rw[decide_eq_true_eq]
  generalize hv:Av re=sv at Pc Lb
  cases sv
  all_goals
   simp only[Vw,false_iff,true_iff]at Lb
   refine av func92 rfl ntmps92 results92 rfl 0 77371252473350734410155975 (by simp) (by simp) ?_
   simp only[zX,simprocAttr,i64,ck,Re.ae re,iD,bD,p,VK,VG]
   repeat' (first
 |(with_reducible refine And.intro (by first|omega|exact⟨by omega,by omega⟩|(simp;done)) ?_)
 |(with_reducible refine jz (fun hc=>?_) (fun hc=>?_) <;> simp only[zX,simprocAttr,i64,iD,bD,p,VK,VG,hc])
 |(with_reducible refine dX (fun hc=>?_) (fun hc=>?_) <;> simp only[zX,simprocAttr,i64,iD,bD,p,VK,VG,hc])
 |(with_reducible refine dW (fun hc=>?_) (fun hc=>?_) <;> simp only[zX,simprocAttr,i64,iD,bD,p,VK,VG,hc])
 |(with_reducible refine dr (fun hc=>?_) (fun hc=>?_) <;> simp only[zX,simprocAttr,i64,iD,bD,p,VK,VG,hc])
 |(with_reducible refine dp (fun hc=>?_) (fun hc=>?_) <;> simp only[zX,simprocAttr,i64,iD,bD,p,VK,VG,hc])
 |(with_reducible refine gr (fun hc=>?_) (fun hc=>?_) <;> simp only[zX,simprocAttr,i64,iD,bD,p,VK,VG,hc])
 |(with_reducible refine dS (fun hc=>?_) (fun hc=>?_) <;> simp only[zX,simprocAttr,i64,iD,bD,p,VK,VG,hc]))
  any_goals
   rw[p]at Pc
   refine aE Pc (by simp [ar,ar.go,aw,i64,bV,ck]) (by simp [ar,ar.go,aw,i64,bV,ck]) ?_
   simp only[zX,simprocAttr,i64,iD,bD,p,bV,VK,VG]
  any_goals
   repeat' (first
 |(with_reducible refine And.intro (by first|omega|exact⟨by omega,by omega⟩|(simp;done)) ?_)
 |(with_reducible refine jz (fun hc=>?_) (fun hc=>?_) <;> simp only[zX,simprocAttr,i64,iD,bD,p,bV,VK,VG,hc])
 |(with_reducible refine dX (fun hc=>?_) (fun hc=>?_) <;> simp only[zX,simprocAttr,i64,iD,bD,p,bV,VK,VG,hc])
 |(with_reducible refine dW (fun hc=>?_) (fun hc=>?_) <;> simp only[zX,simprocAttr,i64,iD,bD,p,bV,VK,VG,hc])
 |(with_reducible refine dr (fun hc=>?_) (fun hc=>?_) <;> simp only[zX,simprocAttr,i64,iD,bD,p,bV,VK,VG,hc])
 |(with_reducible refine dp (fun hc=>?_) (fun hc=>?_) <;> simp only[zX,simprocAttr,i64,iD,bD,p,bV,VK,VG,hc])
 |(with_reducible refine gr (fun hc=>?_) (fun hc=>?_) <;> simp only[zX,simprocAttr,i64,iD,bD,p,bV,VK,VG,hc])
 |(with_reducible refine dS (fun hc=>?_) (fun hc=>?_) <;> simp only[zX,simprocAttr,i64,iD,bD,p,bV,VK,VG,hc]))
  all_goals
   rcases Wr re.neg with ca|ca
   all_goals
    try (exfalso;rw[ca]at hc;exact absurd hc (by decide);done)
    try simp only[ca,Vs,Vt]
    first
     |(first|refine congrArg bV (Eq.symm (Bool.eq_false_iff.2 fun h=>?_))|refine Eq.symm (Bool.eq_false_iff.2 fun h=>?_)
       simp only[cg,da,p,ca,Int.reduceEq,or_self,if_false,or_true,true_or,or_false,false_or,if_true,reduceIte,VE,decide_eq_true_eq,Vs,Vt,VV,VM,reduceCtorEq,Vw,false_and,and_false,true_and,and_true]at h
       try omega
       done)
     |(first|refine congrArg bV (Eq.symm ?_)|refine Eq.symm ?_
       simp only[cg,da,p,ca,Int.reduceEq,or_self,if_false,or_true,true_or,or_false,false_or,if_true,reduceIte,VE,decide_eq_true_eq,Vs,Vt,VV,VM,reduceCtorEq,Vw,false_and,and_false,true_and,and_true]
       try omega
       done)
end Go.Proofs.Ytllagoeijcjpiaa
