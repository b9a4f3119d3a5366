/- A part of the proof (F47). -/
import Derived.Test.YtphfjhaffbfpfaaPM23
set_option linter.all false
set_option maxRecDepth 100000
set_option maxHeartbeats 80000000
namespace Go.Proofs.Ytphfjhaffbfpfaa
open Go.VL Go.Proofs.Try
theorem Pd (re:Re) (hf:re.eN=true) (ah top:Int) (ht:top<=1114111) (O3:re.op=1\/re.op=4\/(¬re.op=0/\¬re.op=1/\¬re.op=2/\¬re.op=3/\¬re.op=4/\¬re.op=5/\¬re.op=6/\¬re.op=7/\¬re.op=8/\¬re.op=9/\¬re.op=10/\¬re.op=11)):ba prog 34 [bP re,i64 ah,i64 top] (bV (b9 re ah top)):=by
 obtain⟨nV,hlen,A4⟩:=Re.fC hf;have du:=zI re.set nV top ht;have Wg:=H7 re;rw[bP,Re.ae]at Wg;simp only[i64,iD,bD]at du Wg;rcases O3 with p|p|⟨p0,p1,p2,p3,p4,p5,p6,p7,p8,p9,YI,VZ⟩
 case inr.inr =>
  rw[show b9 re ah top=false by simp only[b9];rw[adl (by omega)];rfl];by_cases n1:1<=re.n
  ·by_cases n2:re.n<=ah
   ·refine ar func34 rfl ntmps34 results34 rfl 0 77371252473350734410155975 (by simp) (by simp) ?_;simp only[zX,simprocAttr,i64,bP,Re.ae re,iD,bD,p0,p1,p2,p3,p4,p5,p6,p7,p8,p9,YI,VZ,n1,n2];all_goals first|exact⟨rfl,rfl⟩|exact⟨rfl,trivial⟩|rfl|trivial|(rw[aq];rfl)
   ·refine ar func34 rfl ntmps34 results34 rfl 0 77371252473350734410155975 (by simp) (by simp) ?_;simp only[zX,simprocAttr,i64,bP,Re.ae re,iD,bD,p0,p1,p2,p3,p4,p5,p6,p7,p8,p9,YI,VZ,n1,n2];all_goals first|exact⟨rfl,rfl⟩|exact⟨rfl,trivial⟩|rfl|trivial|(rw[aq];rfl)
  ·refine ar func34 rfl ntmps34 results34 rfl 0 77371252473350734410155975 (by simp) (by simp) ?_;simp only[zX,simprocAttr,i64,bP,Re.ae re,iD,bD,p0,p1,p2,p3,p4,p5,p6,p7,p8,p9,YI,VZ,n1];all_goals first|exact⟨rfl,rfl⟩|exact⟨rfl,trivial⟩|rfl|trivial|(rw[aq];rfl)
 case inl =>
  generalize hv:gK re.set top=sv at du;cases sv;all_goals
   refine ar func34 rfl ntmps34 results34 rfl 0 77371252473350734410155975 (by simp) (by simp) ?_;simp only[zX,simprocAttr,i64,bP,Re.ae re,iD,bD,p,adF,adK]
   repeat' (first
 |(with_reducible refine And.intro (by first|omega|exact⟨by omega,by omega⟩|(simp;done)) ?_)
 |(with_reducible first|refine jh (λhc=>?_) (λhc=>?_)|refine dG (λhc=>?_) (λhc=>?_)|refine dN (λhc=>?_) (λhc=>?_)|refine dd (λhc=>?_) (λhc=>?_)|refine de (λhc=>?_) (λhc=>?_)|refine gv (λhc=>?_) (λhc=>?_)|refine dM (λhc=>?_) (λhc=>?_))<;>simp only[zX,simprocAttr,i64,iD,bD,p,adF,adK,hc])
  any_goals
   refine az du (by simp [ak,ak.go,aq,i64,bV,bP]) (by simp [ak,ak.go,aq,i64,bV,bP]) ?_;simp only[zX,simprocAttr,i64,iD,bD,p,bV,adF,adK]
  any_goals
   repeat' (first
 |(with_reducible refine And.intro (by first|omega|exact⟨by omega,by omega⟩|(simp;done)) ?_)
 |(with_reducible first|refine jh (λhc=>?_) (λhc=>?_)|refine dG (λhc=>?_) (λhc=>?_)|refine dN (λhc=>?_) (λhc=>?_)|refine dd (λhc=>?_) (λhc=>?_)|refine de (λhc=>?_) (λhc=>?_)|refine gv (λhc=>?_) (λhc=>?_)|refine dM (λhc=>?_) (λhc=>?_))<;>simp only[zX,simprocAttr,i64,iD,bD,p,bV,adF,adK,hc])
  all_goals
   rcases Bool.eq_false_or_eq_true re.neg with cS|cS;all_goals
    try (exfalso;rw[cS]at hc;exact absurd hc (by decide);done)
    try simp only[cS,ads,adz]
    first
     |(first|refine congrArg bV (Eq.symm (Bool.eq_false_iff.2 λh=>?_))|refine Eq.symm (Bool.eq_false_iff.2 λh=>?_)
       simp only[b9,cR,p,cS,Int.reduceEq,or_self,if_false,or_true,true_or,or_false,false_or,if_true,reduceIte,adD,adC,ads,adz,ad4,adY,reduceCtorEq,adq,false_and,and_false,true_and,and_true,hv]at h;try omega
       done)
     |(first|refine congrArg bV (Eq.symm ?_)|refine Eq.symm ?_
       simp only[b9,cR,p,cS,Int.reduceEq,or_self,if_false,or_true,true_or,or_false,false_or,if_true,reduceIte,adD,adC,ads,adz,ad4,adY,reduceCtorEq,adq,false_and,and_false,true_and,and_true,hv];try omega
       done)
 case inr.inl =>
  have NV:CV re=true ↔ (0<=re.mn/\re.mn<=32/\0<=re.mode/\re.mode<=2/\(re.mx=-1\/(1<=re.mx/\re.mx<=32/\re.mn<=re.mx))):=by unfold CV;rw[adC]
  generalize hv:CV re=sv at Wg NV;cases sv;all_goals
   simp only[adq,false_iff,true_iff]at NV;refine ar func34 rfl ntmps34 results34 rfl 0 77371252473350734410155975 (by simp) (by simp) ?_;simp only[zX,simprocAttr,i64,bP,Re.ae re,iD,bD,p,adF,adK]
   repeat' (first
 |(with_reducible refine And.intro (by first|omega|exact⟨by omega,by omega⟩|(simp;done)) ?_)
 |(with_reducible first|refine jh (λhc=>?_) (λhc=>?_)|refine dG (λhc=>?_) (λhc=>?_)|refine dN (λhc=>?_) (λhc=>?_)|refine dd (λhc=>?_) (λhc=>?_)|refine de (λhc=>?_) (λhc=>?_)|refine gv (λhc=>?_) (λhc=>?_)|refine dM (λhc=>?_) (λhc=>?_))<;>simp only[zX,simprocAttr,i64,iD,bD,p,adF,adK,hc])
  any_goals
   rw[p]at Wg;refine az Wg (by simp [ak,ak.go,aq,i64,bV,bP]) (by simp [ak,ak.go,aq,i64,bV,bP]) ?_;simp only[zX,simprocAttr,i64,iD,bD,p,bV,adF,adK]
  any_goals
   repeat' (first
 |(with_reducible refine And.intro (by first|omega|exact⟨by omega,by omega⟩|(simp;done)) ?_)
 |(with_reducible first|refine jh (λhc=>?_) (λhc=>?_)|refine dG (λhc=>?_) (λhc=>?_)|refine dN (λhc=>?_) (λhc=>?_)|refine dd (λhc=>?_) (λhc=>?_)|refine de (λhc=>?_) (λhc=>?_)|refine gv (λhc=>?_) (λhc=>?_)|refine dM (λhc=>?_) (λhc=>?_))<;>simp only[zX,simprocAttr,i64,iD,bD,p,bV,adF,adK,hc])
  all_goals
   rcases Bool.eq_false_or_eq_true re.neg with cS|cS;all_goals
    try (exfalso;rw[cS]at hc;exact absurd hc (by decide);done)
    try simp only[cS,ads,adz]
    first
     |(first|refine congrArg bV (Eq.symm (Bool.eq_false_iff.2 λh=>?_))|refine Eq.symm (Bool.eq_false_iff.2 λh=>?_)
       simp only[b9,cR,p,cS,Int.reduceEq,or_self,if_false,or_true,true_or,or_false,false_or,if_true,reduceIte,adD,adC,ads,adz,ad4,adY,reduceCtorEq,adq,false_and,and_false,true_and,and_true]at h;try omega
       done)
     |(first|refine congrArg bV (Eq.symm ?_)|refine Eq.symm ?_
       simp only[b9,cR,p,cS,Int.reduceEq,or_self,if_false,or_true,true_or,or_false,false_or,if_true,reduceIte,adD,adC,ads,adz,ad4,adY,reduceCtorEq,adq,false_and,and_false,true_and,and_true];try omega
       done)
end Go.Proofs.Ytphfjhaffbfpfaa
