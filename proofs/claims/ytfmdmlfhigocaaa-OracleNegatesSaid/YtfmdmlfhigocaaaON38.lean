/- A part of the proof (F47 F47B F47C F47D F47E F48). -/
import Derived.Test.YtfmdmlfhigocaaaON37
set_option linter.unusedSimpArgs false
set_option linter.unusedVariables false
open Int renaming reduceEq → mA
set_option maxRecDepth 100000
set_option maxHeartbeats 80000000
namespace Go.Proofs.Ytfmdmlfhigocaaa
open Go.VL Go.Proofs.Try
theorem P9 (re:Re) (hf:re.bC=true) (ak top:Int) (ht:top<=1114111) (vN:re.op=1\/re.op=4\/(¬re.op=0/\¬re.op=1/\¬re.op=2/\¬re.op=3/\¬re.op=4/\¬re.op=5/\¬re.op=6/\¬re.op=7/\¬re.op=8/\¬re.op=9/\¬re.op=10/\¬re.op=11)):aO prog 68 [aM re,i64 ak,i64 top] (bV (bK re ak top)):=by
 obtain⟨ie,hlen,rQ⟩:=Re.cA hf;have oz:=Cg re.set ie top ht;have WQ:=KQ re;rw[aM,Re.ae]at WQ;simp only[i64,iD,bD]at oz WQ;rcases vN with p|p|⟨p0,p1,p2,p3,p4,p5,p6,p7,p8,p9,Zl,Yt⟩
 case inr.inr =>
  rw[show bK re ak top=false by simp only[bK];rw[b6 (by omega)];rfl];by_cases n1:1<=re.n
  ·by_cases n2:re.n<=ak
   ·refine an func68 rfl ntmps68 results68 rfl 0 77371252473350734410155975 (by simp) (by simp) ?_;simp only[zX,simprocAttr,i64,aM,Re.ae re,iD,bD,p0,p1,p2,p3,p4,p5,p6,p7,p8,p9,Zl,Yt,n1,n2];all_goals first|exact⟨rfl,rfl⟩|exact⟨rfl,trivial⟩|rfl|trivial|(rw[ai];rfl)
   ·refine an func68 rfl ntmps68 results68 rfl 0 77371252473350734410155975 (by simp) (by simp) ?_;simp only[zX,simprocAttr,i64,aM,Re.ae re,iD,bD,p0,p1,p2,p3,p4,p5,p6,p7,p8,p9,Zl,Yt,n1,n2];all_goals first|exact⟨rfl,rfl⟩|exact⟨rfl,trivial⟩|rfl|trivial|(rw[ai];rfl)
  ·refine an func68 rfl ntmps68 results68 rfl 0 77371252473350734410155975 (by simp) (by simp) ?_;simp only[zX,simprocAttr,i64,aM,Re.ae re,iD,bD,p0,p1,p2,p3,p4,p5,p6,p7,p8,p9,Zl,Yt,n1];all_goals first|exact⟨rfl,rfl⟩|exact⟨rfl,trivial⟩|rfl|trivial|(rw[ai];rfl)
 case inl =>
  generalize hv:gZ re.set top=sv at oz;cases sv;all_goals
   refine an func68 rfl ntmps68 results68 rfl 0 77371252473350734410155975 (by simp) (by simp) ?_;simp only[zX,simprocAttr,i64,aM,Re.ae re,iD,bD,p,af0,agk]
   repeat' (first
 |(with_reducible refine And.intro (by first|omega|exact⟨by omega,by omega⟩|(simp;done)) ?_)
 |(with_reducible first|refine kB (λhc=>?_) (λhc=>?_)|refine dM (λhc=>?_) (λhc=>?_)|refine dL (λhc=>?_) (λhc=>?_)|refine cX (λhc=>?_) (λhc=>?_)|refine cW (λhc=>?_) (λhc=>?_)|refine g8 (λhc=>?_) (λhc=>?_)|refine dG (λhc=>?_) (λhc=>?_))<;>simp only[zX,simprocAttr,i64,iD,bD,p,af0,agk,hc])
  any_goals
   refine aj oz (by simp [ah,ah.go,ai,i64,bV,aM]) (by simp [ah,ah.go,ai,i64,bV,aM]) ?_;simp only[zX,simprocAttr,i64,iD,bD,p,bV,af0,agk]
  any_goals
   repeat' (first
 |(with_reducible refine And.intro (by first|omega|exact⟨by omega,by omega⟩|(simp;done)) ?_)
 |(with_reducible first|refine kB (λhc=>?_) (λhc=>?_)|refine dM (λhc=>?_) (λhc=>?_)|refine dL (λhc=>?_) (λhc=>?_)|refine cX (λhc=>?_) (λhc=>?_)|refine cW (λhc=>?_) (λhc=>?_)|refine g8 (λhc=>?_) (λhc=>?_)|refine dG (λhc=>?_) (λhc=>?_))<;>simp only[zX,simprocAttr,i64,iD,bD,p,bV,af0,agk,hc])
  all_goals
   rcases ahb re.neg with dA|dA;all_goals
    try (exfalso;rw[dA]at hc;exact absurd hc (by decide);done)
    try simp only[dA,aga,af4]
    first
     |(first|refine congrArg bV (Eq.symm (Bool.eq_false_iff.2 λh=>?_))|refine Eq.symm (Bool.eq_false_iff.2 λh=>?_)
       simp only[bK,cr,p,dA,mA,or_self,if_false,or_true,true_or,or_false,false_or,if_true,reduceIte,agb,decide_eq_true_eq,aga,af4,agz,agr,reduceCtorEq,age,false_and,and_false,true_and,and_true,hv]at h;try omega
       done)
     |(first|refine congrArg bV (Eq.symm ?_)|refine Eq.symm ?_
       simp only[bK,cr,p,dA,mA,or_self,if_false,or_true,true_or,or_false,false_or,if_true,reduceIte,agb,decide_eq_true_eq,aga,af4,agz,agr,reduceCtorEq,age,false_and,and_false,true_and,and_true,hv];try omega
       done)
 case inr.inl =>
  have Xs:FI re=true ↔ (0<=re.mn/\re.mn<=32/\0<=re.mode/\re.mode<=2/\(re.mx=-1\/(1<=re.mx/\re.mx<=32/\re.mn<=re.mx))):=by unfold FI;rw[decide_eq_true_eq]
  generalize hv:FI re=sv at WQ Xs;cases sv;all_goals
   simp only[age,false_iff,true_iff]at Xs;refine an func68 rfl ntmps68 results68 rfl 0 77371252473350734410155975 (by simp) (by simp) ?_;simp only[zX,simprocAttr,i64,aM,Re.ae re,iD,bD,p,af0,agk]
   repeat' (first
 |(with_reducible refine And.intro (by first|omega|exact⟨by omega,by omega⟩|(simp;done)) ?_)
 |(with_reducible first|refine kB (λhc=>?_) (λhc=>?_)|refine dM (λhc=>?_) (λhc=>?_)|refine dL (λhc=>?_) (λhc=>?_)|refine cX (λhc=>?_) (λhc=>?_)|refine cW (λhc=>?_) (λhc=>?_)|refine g8 (λhc=>?_) (λhc=>?_)|refine dG (λhc=>?_) (λhc=>?_))<;>simp only[zX,simprocAttr,i64,iD,bD,p,af0,agk,hc])
  any_goals
   rw[p]at WQ;refine aj WQ (by simp [ah,ah.go,ai,i64,bV,aM]) (by simp [ah,ah.go,ai,i64,bV,aM]) ?_;simp only[zX,simprocAttr,i64,iD,bD,p,bV,af0,agk]
  any_goals
   repeat' (first
 |(with_reducible refine And.intro (by first|omega|exact⟨by omega,by omega⟩|(simp;done)) ?_)
 |(with_reducible first|refine kB (λhc=>?_) (λhc=>?_)|refine dM (λhc=>?_) (λhc=>?_)|refine dL (λhc=>?_) (λhc=>?_)|refine cX (λhc=>?_) (λhc=>?_)|refine cW (λhc=>?_) (λhc=>?_)|refine g8 (λhc=>?_) (λhc=>?_)|refine dG (λhc=>?_) (λhc=>?_))<;>simp only[zX,simprocAttr,i64,iD,bD,p,bV,af0,agk,hc])
  all_goals
   rcases ahb re.neg with dA|dA;all_goals
    try (exfalso;rw[dA]at hc;exact absurd hc (by decide);done)
    try simp only[dA,aga,af4]
    first
     |(first|refine congrArg bV (Eq.symm (Bool.eq_false_iff.2 λh=>?_))|refine Eq.symm (Bool.eq_false_iff.2 λh=>?_)
       simp only[bK,cr,p,dA,mA,or_self,if_false,or_true,true_or,or_false,false_or,if_true,reduceIte,agb,decide_eq_true_eq,aga,af4,agz,agr,reduceCtorEq,age,false_and,and_false,true_and,and_true]at h;try omega
       done)
     |(first|refine congrArg bV (Eq.symm ?_)|refine Eq.symm ?_
       simp only[bK,cr,p,dA,mA,or_self,if_false,or_true,true_or,or_false,false_or,if_true,reduceIte,agb,decide_eq_true_eq,aga,af4,agz,agr,reduceCtorEq,age,false_and,and_false,true_and,and_true];try omega
       done)
theorem Q4 (re:Re) (hf:re.bC=true) (ak top:Int) (ht:top<=1114111) (vN:re.op=0\/re.op=2\/re.op=3):aO prog 68 [aM re,i64 ak,i64 top] (bV (bK re ak top)):=by
 obtain⟨ie,hlen,rQ⟩:=Re.cA hf;rcases vN with p|p|p;all_goals
  refine an func68 rfl ntmps68 results68 rfl 0 77371252473350734410155975 (by simp) (by simp) ?_;simp only[zX,simprocAttr,i64,aM,Re.ae re,iD,bD,p]
  repeat' (first
 |(with_reducible refine And.intro (by first|omega|exact⟨by omega,by omega⟩|(simp;done)) ?_)
 |(with_reducible first|refine kB (λhc=>?_) (λhc=>?_)|refine dM (λhc=>?_) (λhc=>?_)|refine dL (λhc=>?_) (λhc=>?_)|refine cX (λhc=>?_) (λhc=>?_)|refine cW (λhc=>?_) (λhc=>?_)|refine g8 (λhc=>?_) (λhc=>?_)|refine dG (λhc=>?_) (λhc=>?_))<;>simp only[zX,simprocAttr,i64,iD,bD,p,hc])
 all_goals
  rcases ahb re.neg with dA|dA;all_goals
   try (exfalso;rw[dA]at hc;exact absurd hc (by decide);done)
   try simp only[dA,aga,af4]
   first
    |(refine congrArg bV (Eq.symm (Bool.eq_false_iff.2 λh=>?_))
      simp only[bK,cr,p,dA,mA,or_self,if_false,or_true,true_or,or_false,false_or,if_true,reduceIte,agb,decide_eq_true_eq,aga,af4,agz,agr,reduceCtorEq,age,false_and,and_false,true_and,and_true]at h;try omega
      done)
    |(refine congrArg bV (Eq.symm ?_)
      simp only[bK,cr,p,dA,mA,or_self,if_false,or_true,true_or,or_false,false_or,if_true,reduceIte,agb,decide_eq_true_eq,aga,af4,agz,agr,reduceCtorEq,age,false_and,and_false,true_and,and_true];try omega
      done)
theorem Ri (re:Re) (hf:re.bC=true) (ak top:Int) (ht:top<=1114111) (vN:re.op=5\/re.op=6\/re.op=7):aO prog 68 [aM re,i64 ak,i64 top] (bV (bK re ak top)):=by
 obtain⟨ie,hlen,rQ⟩:=Re.cA hf;rcases vN with p|p|p;all_goals
  refine an func68 rfl ntmps68 results68 rfl 0 77371252473350734410155975 (by simp) (by simp) ?_;simp only[zX,simprocAttr,i64,aM,Re.ae re,iD,bD,p]
  repeat' (first
 |(with_reducible refine And.intro (by first|omega|exact⟨by omega,by omega⟩|(simp;done)) ?_)
 |(with_reducible first|refine kB (λhc=>?_) (λhc=>?_)|refine dM (λhc=>?_) (λhc=>?_)|refine dL (λhc=>?_) (λhc=>?_)|refine cX (λhc=>?_) (λhc=>?_)|refine cW (λhc=>?_) (λhc=>?_)|refine g8 (λhc=>?_) (λhc=>?_)|refine dG (λhc=>?_) (λhc=>?_))<;>simp only[zX,simprocAttr,i64,iD,bD,p,hc])
 all_goals
  rcases ahb re.neg with dA|dA;all_goals
   try (exfalso;rw[dA]at hc;exact absurd hc (by decide);done)
   try simp only[dA,aga,af4]
   first
    |(refine congrArg bV (Eq.symm (Bool.eq_false_iff.2 λh=>?_))
      simp only[bK,cr,p,dA,mA,or_self,if_false,or_true,true_or,or_false,false_or,if_true,reduceIte,agb,decide_eq_true_eq,aga,af4,agz,agr,reduceCtorEq,age,false_and,and_false,true_and,and_true]at h;try omega
      done)
    |(refine congrArg bV (Eq.symm ?_)
      simp only[bK,cr,p,dA,mA,or_self,if_false,or_true,true_or,or_false,false_or,if_true,reduceIte,agb,decide_eq_true_eq,aga,af4,agz,agr,reduceCtorEq,age,false_and,and_false,true_and,and_true];try omega
      done)
theorem P3 (re:Re) (hf:re.bC=true) (ak top:Int) (ht:top<=1114111) (vN:re.op=8\/re.op=9):aO prog 68 [aM re,i64 ak,i64 top] (bV (bK re ak top)):=by
 obtain⟨ie,hlen,rQ⟩:=Re.cA hf;rcases vN with p|p;all_goals
  refine an func68 rfl ntmps68 results68 rfl 0 77371252473350734410155975 (by simp) (by simp) ?_;simp only[zX,simprocAttr,i64,aM,Re.ae re,iD,bD,p]
  repeat' (first
 |(with_reducible refine And.intro (by first|omega|exact⟨by omega,by omega⟩|(simp;done)) ?_)
 |(with_reducible first|refine kB (λhc=>?_) (λhc=>?_)|refine dM (λhc=>?_) (λhc=>?_)|refine dL (λhc=>?_) (λhc=>?_)|refine cX (λhc=>?_) (λhc=>?_)|refine cW (λhc=>?_) (λhc=>?_)|refine g8 (λhc=>?_) (λhc=>?_)|refine dG (λhc=>?_) (λhc=>?_))<;>simp only[zX,simprocAttr,i64,iD,bD,p,hc])
 all_goals
  rcases ahb re.neg with dA|dA;all_goals
   try (exfalso;rw[dA]at hc;exact absurd hc (by decide);done)
   try simp only[dA,aga,af4]
   first
    |(refine congrArg bV (Eq.symm (Bool.eq_false_iff.2 λh=>?_))
      simp only[bK,cr,p,dA,mA,or_self,if_false,or_true,true_or,or_false,false_or,if_true,reduceIte,agb,decide_eq_true_eq,aga,af4,agz,agr,reduceCtorEq,age,false_and,and_false,true_and,and_true]at h;try omega
      done)
    |(refine congrArg bV (Eq.symm ?_)
      simp only[bK,cr,p,dA,mA,or_self,if_false,or_true,true_or,or_false,false_or,if_true,reduceIte,agb,decide_eq_true_eq,aga,af4,agz,agr,reduceCtorEq,age,false_and,and_false,true_and,and_true];try omega
      done)
theorem QV (re:Re) (hf:re.bC=true) (ak top:Int) (ht:top<=1114111) (vN:re.op=10\/re.op=11):aO prog 68 [aM re,i64 ak,i64 top] (bV (bK re ak top)):=by
 obtain⟨ie,hlen,rQ⟩:=Re.cA hf;rcases vN with p|p;all_goals
  refine an func68 rfl ntmps68 results68 rfl 0 77371252473350734410155975 (by simp) (by simp) ?_;simp only[zX,simprocAttr,i64,aM,Re.ae re,iD,bD,p]
  repeat' (first
 |(with_reducible refine And.intro (by first|omega|exact⟨by omega,by omega⟩|(simp;done)) ?_)
 |(with_reducible first|refine kB (λhc=>?_) (λhc=>?_)|refine dM (λhc=>?_) (λhc=>?_)|refine dL (λhc=>?_) (λhc=>?_)|refine cX (λhc=>?_) (λhc=>?_)|refine cW (λhc=>?_) (λhc=>?_)|refine g8 (λhc=>?_) (λhc=>?_)|refine dG (λhc=>?_) (λhc=>?_))<;>simp only[zX,simprocAttr,i64,iD,bD,p,hc])
 all_goals
  rcases ahb re.neg with dA|dA;all_goals
   try (exfalso;rw[dA]at hc;exact absurd hc (by decide);done)
   try simp only[dA,aga,af4]
   first
    |(refine congrArg bV (Eq.symm (Bool.eq_false_iff.2 λh=>?_))
      simp only[bK,cr,p,dA,mA,or_self,if_false,or_true,true_or,or_false,false_or,if_true,reduceIte,agb,decide_eq_true_eq,aga,af4,agz,agr,reduceCtorEq,age,false_and,and_false,true_and,and_true]at h;try omega
      done)
    |(refine congrArg bV (Eq.symm ?_)
      simp only[bK,cr,p,dA,mA,or_self,if_false,or_true,true_or,or_false,false_or,if_true,reduceIte,agb,decide_eq_true_eq,aga,af4,agz,agr,reduceCtorEq,age,false_and,and_false,true_and,and_true];try omega
      done)
theorem Nz (re:Re) (hf:re.bC=true) (ak top:Int) (ht:top<=1114111):aO prog 68 [aM re,i64 ak,i64 top] (bV (bK re ak top)):=by
 have hc:(re.op=0\/re.op=2\/re.op=3)\/(re.op=5\/re.op=6\/re.op=7)\/(re.op=8\/re.op=9)\/(re.op=10\/re.op=11)\/(re.op=1\/re.op=4\/(¬re.op=0/\¬re.op=1/\¬re.op=2/\¬re.op=3/\¬re.op=4/\¬re.op=5/\¬re.op=6/\¬re.op=7/\¬re.op=8/\¬re.op=9/\¬re.op=10/\¬re.op=11)):=by omega
 rcases hc with h|h|h|h|h
 ·exact Q4 re hf ak top ht h
 ·exact Ri re hf ak top ht h
 ·exact P3 re hf ak top ht h
 ·exact QV re hf ak top ht h
 ·exact P9 re hf ak top ht h
mutual
def Re.vw (ak top:Int):Re->Int->Int->Bool->Bool×Int×Bool
 |.mk op set kids mn mx mode n neg,d,sz,g =>
  if 256<sz+1\/24<d then (false,sz+1,g) else Re.rG ak top kids (d+1) (sz+1) (g&&bK (.mk op set kids mn mx mode n neg) ak top)
def Re.rG (ak top:Int):List Re->Int->Int->Bool->Bool×Int×Bool
 |[],_,sz,g=>(true,sz,g)
 |k::l,d,sz,g=>if (Re.vw ak top k d sz g).1=true then Re.rG ak top l d (Re.vw ak top k d sz g).2.1 (Re.vw ak top k d sz g).2.2 else Re.vw ak top k d sz g
end
theorem Re.Us (ak top:Int) (re:Re) (d sz:Int) (g:Bool):re.vw ak top d sz g=if 256<sz+1\/24<d then (false,sz+1,g) else Re.rG ak top re.kids (d+1) (sz+1) (g&&bK re ak top):=by
 cases re;simp [Re.vw,Re.kids]
theorem Re.vY (ak top:Int):∀(a b:List Re) (d sz:Int) (g:Bool),Re.rG ak top (a++b) d sz g=if (Re.rG ak top a d sz g).1=true then Re.rG ak top b d (Re.rG ak top a d sz g).2.1 (Re.rG ak top a d sz g).2.2 else Re.rG ak top a d sz g
 |[],b,d,sz,g=>by simp [Re.rG]
 |k::a,b,d,sz,g=>by
  simp only[afQ,Re.rG];split
  ·exact Re.vY ak top a b d _ _
  ·rename_i h;first|rfl|rw[ap h]
theorem Re.Pb (ak top:Int) (a:List Re) (k:Re) (d sz:Int) (g:Bool) (h:(Re.rG ak top a d sz g).1=true):Re.rG ak top (a++[k]) d sz g=k.vw ak top d (Re.rG ak top a d sz g).2.1 (Re.rG ak top a d sz g).2.2:=by
 rw[Re.vY,be h];simp only[Re.rG];split
 ·rename_i hk;exact Prod.ext hk.symm rfl
 ·rfl
def U6 (ak top:Int) (re:Re):Prop:=∀(d sz:Int) (g:Bool),0<=sz->sz<=256 ->
 ((re.vw ak top d sz g).1=true ↔ (sz+re.size<=256/\d+re.depth-1<=24))/\0<=(re.vw ak top d sz g).2.1/\(re.vw ak top d sz g).2.1<=257 /\
 ((re.vw ak top d sz g).1=true->(re.vw ak top d sz g).2.1=sz+re.size/\(re.vw ak top d sz g).2.2=(g&&re.whole ak top))
theorem KT (ak top:Int):∀(l:List Re),(∀k∈l,U6 ak top k)->∀(d sz:Int) (g:Bool),0<=sz->sz<=256 ->
  ((Re.rG ak top l d sz g).1=true ↔ (sz+Re.bZ l<=256/\∀k∈l,d+k.depth-1<=24))/\0<=(Re.rG ak top l d sz g).2.1/\(Re.rG ak top l d sz g).2.1<=257 /\
  ((Re.rG ak top l d sz g).1=true->(Re.rG ak top l d sz g).2.1=sz+Re.bZ l/\(Re.rG ak top l d sz g).2.2=(g&&l.all λk=>k.whole ak top))
 |[],_,d,sz,g,h0,h1=>by simp only[Re.rG,Re.bZ];exact⟨⟨λ_=>⟨by omega,λk hk=>by cases hk⟩,λ_=>trivial⟩,h0,by omega,λ_=>⟨by omega,by simp⟩⟩
 |k::l,hk,d,sz,g,h0,h1=>by
  obtain⟨a1,a2,a3,a4⟩:=hk k (by simp) d sz g h0 h1;simp only[Re.rG,Re.bZ];split
  ·rename_i ht;obtain⟨b1,b2⟩:=a4 ht;obtain⟨c1,c2⟩:=a1.1 ht;obtain⟨e1,e2,e3,e4⟩:=KT ak top l (λx hx=>hk x (by simp [hx])) d (k.vw ak top d sz g).2.1 (k.vw ak top d sz g).2.2 a2 (by omega);refine⟨?_,e2,e3,λh=>?_⟩
   ·rw[e1,b1];constructor
    ·rintro ⟨f1,f2⟩;refine⟨by omega,λx hx=>?_⟩;rcases List.mem_cons.1 hx with rfl|hx
     ·exact c2
     ·exact f2 x hx
    ·rintro ⟨f1,f2⟩;exact⟨by omega,λx hx=>f2 x (by simp [hx])⟩
   ·obtain⟨f1,f2⟩:=e4 h;refine⟨by omega,?_⟩;rw[f2,b2,agq,Bool.and_assoc]
  ·rename_i ht;refine⟨⟨λh=>absurd h ht,λ⟨f1,f2⟩=>absurd (a1.2 ⟨by omega,f2 k (by simp)⟩) ht⟩,a2,a3,λh=>absurd h ht⟩
theorem Fu (re:Re) (b:Int) (hb:0<=b):re.depth-1<=b ↔ ∀k∈re.kids,k.depth<=b:=by
 rw[Re.gF];constructor
 ·intro h k hk;have:∀(l:List Int) (a x:Int),x∈l->x<=l.foldl max a:=by
   intro l;induction l with
   |nil=>intro a x hx;cases hx
   |cons y l ih =>
    intro a x hx;rcases List.mem_cons.1 hx with rfl|hx
    ·exact aho (by omega) (jx l (max a x))
    ·exact ih (max a y) x hx
  have:=this (re.kids.map Re.depth) 0 k.depth (List.mem_map.2 ⟨k,hk,rfl⟩);unfold oC at h;omega
 ·intro h;have:=nu (b:=b) (re.kids.map Re.depth) 0 hb (λx hx=>by obtain⟨k,hk,rfl⟩:=List.mem_map.1 hx;exact h k hk);unfold oC;omega
theorem TP (ak top:Int) (re:Re):U6 ak top re:=by
 refine Re.ind (Q:=U6 ak top) (λre ih=>?_) re;intro d sz g h0 h1;have hd:=Re.HE re;have hp:=re.size_pos;rw[Re.Us,Re.size_eq];split
 ·rename_i hc;simp only;refine⟨⟨λh=>(by cases h),λh=>?_⟩,by omega,by omega,λh=>(by cases h)⟩;have hdp:1<=re.depth:=by rw[Re.gF];have:=jx (re.kids.map Re.depth) 0;unfold oC;omega
  omega
 ·rename_i hc;obtain⟨a1,a2,a3,a4⟩:=KT ak top re.kids ih (d+1) (sz+1) (g&&bK re ak top) (by omega) (by omega);refine⟨?_,a2,a3,λh=>?_⟩
  ·rw[a1];have Vb:=Fu re (24-d) (by omega);constructor
   ·rintro ⟨f1,f2⟩;have:=Vb.2 (λk hk=>by have:=f2 k hk;omega);omega
   ·rintro ⟨f1,f2⟩;have:=Vb.1 (by omega);exact⟨by omega,λk hk=>by have:=this k hk;omega⟩
  ·obtain⟨f1,f2⟩:=a4 h;refine⟨by omega,?_⟩;rw[f2,Bool.and_assoc];congr 1;unfold Re.whole;rw[Bool.eq_iff_iff,agb,Re.aB,af8]
def gO (g:Bool):VL.Obj:=⟨0,true,1,[[bV g]]⟩
def qn (lv:Bool) (p:ic):VL.Obj:=⟨0,lv,10,[(GJ p).map .d]⟩
def jb (f:FuncId):VL.Obj:=⟨0,true,1,[[.cl (.func f) [] [.rf 0 0 0 0,.rf 1 0 0 0,.rf 2 0 0 0,.rf 3 0 0 0,.rf 4 0 0 0]]]⟩
def TG (p:ic) (top:Int) (re:Re):Prop:=∀(d sz:Int) (g lv:Bool) (pv:V),(pv=.rf 2 0 0 0\/pv=.d (.el (GJ p)))->0<=d->d<=25->0<=sz->sz<=256 ->
 aq prog 67 [aM re,i64 d,.rf 0 0 0 0,.rf 1 0 0 0,pv,.rf 3 0 0 0,.rf 4 0 0 0] [nL sz,gO g,qn lv p,nL top,jb 67]
  λv s=>v=bV (re.vw p.ak top d sz g).1/\s=[nL (re.vw p.ak top d sz g).2.1,gO (re.vw p.ak top d sz g).2.2,qn lv p,nL top,jb 67]
theorem Oi (p:ic) (top:Int) (ht:top<=1114111) (re:Re) (hf:re.bC=true):TG p top re:=by
 revert hf;refine Re.ind (Q:=λre=>re.bC=true->TG p top re) (λre ih hf=>?_) re;obtain⟨ie,hlen,rQ⟩:=Re.cA hf;have TI:=Nz re hf p.ak top ht;rw[aM,Re.ae]at TI;simp only[i64,iD,bD]at TI;intro d sz g lv pv mU eY pQ qj ez;have w1:IntKind.i64.wrap (sz+1)=sz+1:=bd _ (by omega);have w2:IntKind.i64.wrap (d+1)=d+1:=bd _ (by omega);rw[Re.Us];by_cases hc:256<sz+1\/24<d
 ·rw[be hc];have su:256<sz+1\/(¬256<sz+1/\24<d):=by omega
  refine an func67 rfl ntmps67 results67 rfl 5 6442452607 (by simp) (by simp) ?_;rcases su with c1|⟨c1,c2⟩
  ·simp only[zX,simprocAttr,i64,aM,Re.ae re,iD,bD,nL,gO,qn,iK p,jb,bV,w1,c1];all_goals first|exact⟨rfl,rfl⟩|exact⟨rfl,trivial⟩|rfl|trivial|(rw[ai];rfl)
  ·simp only[zX,simprocAttr,i64,aM,Re.ae re,iD,bD,nL,gO,qn,iK p,jb,bV,w1,c1,c2];all_goals first|exact⟨rfl,rfl⟩|exact⟨rfl,trivial⟩|rfl|trivial|(rw[ai];rfl)
 rw[ap hc];have c1:¬256<sz+1:=λh=>hc (.inl h);have c2:¬24<d:=λh=>hc (.inr h);generalize hG:(g&&bK re p.ak top)=G;rcases mU with rfl|rfl;all_goals
  cases g;all_goals
   refine an func67 rfl ntmps67 results67 rfl 5 6442452607 (by simp) (by simp) ?_;simp only[zX,simprocAttr,i64,aM,Re.ae re,iD,bD,nL,gO,qn,iK p,jb,bV,w1,c1,c2];try
    rw[Bool.true_and]at hG;rw[hG]at TI;refine aj TI (by simp [ah,ah.go,ai,i64,bV,aM]) (by simp [ah,ah.go,ai,i64,bV,aM]) ?_;simp only[zX,simprocAttr,i64,iD,bD,bV]
   refine au (λn e s=>∃i:Nat,n=re.kids.length-i/\i<=re.kids.length/\e 0=aM re/\e 1=i64 d/\e 6=.rf 4 0 0 0/\e 31=i64 re.kids.length/\e 32=i64 i /\
     (Re.rG p.ak top (re.kids.take i) (d+1) (sz+1) G).1=true /\
     s=[nL (Re.rG p.ak top (re.kids.take i) (d+1) (sz+1) G).2.1,gO (Re.rG p.ak top (re.kids.take i) (d+1) (sz+1) G).2.2,qn lv p,nL top,jb 67])
    ⟨_,_,_,br.refl,0,rfl,by omega,by simp [aM,Re.ae re,iD,bD];rfl,rfl,rfl,rfl,rfl,rfl,by simp only[agD,Re.rG,nL,gO,qn,iK p,jb,i64,bV,iD,bD,afR,afU,<- hG,Bool.false_and]⟩ ?_
   rintro n e s ⟨i,rfl,hi,h0,h1,h6,WB,CJ,bA,rfl⟩;have Uc:=KT p.ak top (re.kids.take i) (λk _=>TP p.ak top k) (d+1) (sz+1) G (by omega) (by omega);obtain⟨b1,b2⟩:=Uc.2.2.2 bA;have b3:=(Uc.1.1 bA).1;have b4:=Uc.2.1;rcases agi i re.kids.length with az|fI
   ·obtain⟨k,hk⟩:∃k,re.kids[i]?=some k:=⟨_,afP az⟩
    have hm:=afW hk;have AJ:=Re.Pb p.ak top (re.kids.take i) k (d+1) (sz+1) G bA;rw[<- aR hk]at AJ;have Xm:Re.rG p.ak top re.kids (d+1) (sz+1) G=if (Re.rG p.ak top (re.kids.take (i+1)) (d+1) (sz+1) G).1=true then Re.rG p.ak top (re.kids.drop (i+1)) (d+1) (Re.rG p.ak top (re.kids.take (i+1)) (d+1) (sz+1) G).2.1 (Re.rG p.ak top (re.kids.take (i+1)) (d+1) (sz+1) G).2.2 else Re.rG p.ak top (re.kids.take (i+1)) (d+1) (sz+1) G:=by rw[<- Re.vY,ahk]
    have uV:=ih k hm (rQ k hm) (d+1) (Re.rG p.ak top (re.kids.take i) (d+1) (sz+1) G).2.1 (Re.rG p.ak top (re.kids.take i) (d+1) (sz+1) G).2.2 lv (.rf 2 0 0 0) (.inl rfl) (by omega) (by omega) b4 (by omega);rw[<- AJ]at uV;simp only[qn,iK p,iD,bD,afR,afU]at uV;generalize Re.rG p.ak top (re.kids.take i) (d+1) (sz+1) G=A at *;generalize hB:Re.rG p.ak top (re.kids.take (i+1)) (d+1) (sz+1) G=B at *;obtain⟨B1,B2,B3⟩:=B;simp only[zX,simprocAttr,i64,nL,gO,qn,iK p,jb,bV,h0,h1,h6,WB,CJ,az];refine ar mix [] [(0,[4],[]),(9,[0,1,2,3,4],[0,1,2,3,4])] (by rfl) ?_;simp only[zX,simprocAttr,i64,nL,gO,qn,iK p,jb,bV,aM,Re.ae re,iD,bD,h0,h1,h6,WB,CJ,az,hk,w2];refine JK uV (by intro j hj;simp only[afZ,af0]at hj;simp only[agV,ag8,or_false];omega) rfl rfl ?_;cases B1 with
    |false =>
     simp only[age,if_false]at Xm;rw[Xm];simp only[zX,simprocAttr,i64,nL,gO,qn,iK p,jb,bV,h0,h1,h6,WB,CJ];all_goals first|exact⟨rfl,rfl⟩|exact⟨rfl,trivial⟩|rfl|trivial|(rw[ai];rfl)
    |true =>
     simp only[zX,simprocAttr,i64,nL,gO,bV,h0,h1,h6,WB,CJ];refine⟨re.kids.length-(i+1),_,_,by omega,br.refl,i+1,rfl,az,?_,?_,?_,?_,?_,by rw[hB],?_⟩ <;> (try simp only[zU,Nat.reduceBEq,Nat.reduceShiftRight,Nat.reduceMod,Nat.reduceEqDiff,reduceIte])
     ·simpa [aM,Re.ae re,iD,bD]using h0
     ·exact h1
     ·exact h6
     ·exact WB
     ·rw[bd _ (by omega)];rfl
     ·rw[hB];simp only[qn,iK p,iD,bD,afR,afU];rfl
   ·have cV:i=re.kids.length:=by omega
    subst cV;rw[agj]at *;simp only[zX,simprocAttr,i64,nL,gO,qn,iK p,jb,bV,h0,h1,h6,WB,CJ,agK];rw[bA];all_goals first|exact⟨rfl,rfl⟩|exact⟨rfl,trivial⟩|rfl|trivial|(rw[ai];rfl)
end Go.Proofs.Ytfmdmlfhigocaaa
