/- A part of the proof (F46 F47). -/
import Derived.Test.YtmihcpdhcillaaaGreatBG2
import Derived.Test.YtmihcpdhcillaaaGreatBG18
set_option linter.unusedSimpArgs false
set_option linter.unusedVariables false
set_option maxRecDepth 100000
set_option maxHeartbeats 80000000
set_option linter.unusedSimpArgs false
set_option linter.unusedVariables false
namespace Go.Proofs.YtmihcpdhcillaaaGreat
open Go.VL Go.Proofs.Tryz
theorem I7 (b:Bool):br prog 33 [bV b] (i64 (eG b)):=by
 refine aw func33 rfl ntmps33 results33 rfl 0 5 (by simp) (by simp) ?_
 cases b
 ·simp only[zX,simprocAttr,i64,bV,eG,W2]
 ·simp only[zX,simprocAttr,i64,bV,eG]
def Be (re:Re):Bool:=decide (0≤re.mn∧re.mn≤32∧0≤re.mode∧re.mode≤2∧(re.mx=-1∨(1≤re.mx∧re.mx≤32∧re.mn≤re.mx)))
theorem Fl (re:Re):br prog 54 [bT re] (bV (Be re)):=by
 refine aw func54 rfl ntmps54 results54 rfl 0 5 (by simp) (by simp) ?_
 simp only[zX,simprocAttr,i64,bT,Re.ae re,iD,bD]
 repeat' (first
 |(with_reducible refine And.intro (by first|omega|exact⟨by omega,by omega⟩|(simp;done)) ?_)
 |(with_reducible refine je (fun hc=>?_) (fun hc=>?_) <;> simp only[zX,simprocAttr,i64,iD,bD,hc])
 |(with_reducible refine dR (fun hc=>?_) (fun hc=>?_) <;> simp only[zX,simprocAttr,i64,iD,bD,hc])
 |(with_reducible refine dQ (fun hc=>?_) (fun hc=>?_) <;> simp only[zX,simprocAttr,i64,iD,bD,hc])
 |(with_reducible refine de (fun hc=>?_) (fun hc=>?_) <;> simp only[zX,simprocAttr,i64,iD,bD,hc])
 |(with_reducible refine dh (fun hc=>?_) (fun hc=>?_) <;> simp only[zX,simprocAttr,i64,iD,bD,hc])
 |(with_reducible refine gi (fun hc=>?_) (fun hc=>?_) <;> simp only[zX,simprocAttr,i64,iD,bD,hc])
 |(with_reducible refine dP (fun hc=>?_) (fun hc=>?_) <;> simp only[zX,simprocAttr,i64,iD,bD,hc]))
 any_goals
  refine aq mix [] [] (by rfl) ?_
  simp only[zX,simprocAttr,i64,iD,bD]
 any_goals
  repeat' (first
 |(with_reducible refine And.intro (by first|omega|exact⟨by omega,by omega⟩|(simp;done)) ?_)
 |(with_reducible refine je (fun hc=>?_) (fun hc=>?_) <;> simp only[zX,simprocAttr,i64,iD,bD,hc])
 |(with_reducible refine dR (fun hc=>?_) (fun hc=>?_) <;> simp only[zX,simprocAttr,i64,iD,bD,hc])
 |(with_reducible refine dQ (fun hc=>?_) (fun hc=>?_) <;> simp only[zX,simprocAttr,i64,iD,bD,hc])
 |(with_reducible refine de (fun hc=>?_) (fun hc=>?_) <;> simp only[zX,simprocAttr,i64,iD,bD,hc])
 |(with_reducible refine dh (fun hc=>?_) (fun hc=>?_) <;> simp only[zX,simprocAttr,i64,iD,bD,hc])
 |(with_reducible refine gi (fun hc=>?_) (fun hc=>?_) <;> simp only[zX,simprocAttr,i64,iD,bD,hc])
 |(with_reducible refine dP (fun hc=>?_) (fun hc=>?_) <;> simp only[zX,simprocAttr,i64,iD,bD,hc]))
 all_goals first
  |(refine congrArg bV (Eq.symm (decide_eq_false fun h=>?_));omega)
  |(refine congrArg bV (Eq.symm (decide_eq_true ?_));omega)
  |(refine congrArg bV (Eq.symm (decide_eq_decide.2 ?_));omega)
  |(refine congrArg bV (Eq.symm (decide_eq_decide.2 ?_));constructor <;> intro h <;> omega)
theorem xp (l:List (Int×Int)) (hl:l.length≤1000000000) (top:Int) (ht:top≤1114111):br prog 53 [.d (.sl (l.map aT)),i64 top] (bV (gL l top)):=by
 refine aw func53 rfl ntmps53 results53 rfl 0 7283 (by simp) (by simp) ?_
 by_cases PV:(64:Int)<l.length
 ·simp only[zX,simprocAttr,i64,PV]
  have:¬l.length≤64:=by omega
  simp [gL,bV,this]
 have OG:l.length≤64:=by omega
 have hR:gL l top=oW top (-2) l:=by simp [gL,OG]
 rw[hR]
 simp only[zX,simprocAttr,i64,PV]
 refine aX (fun n e s=>∃i:Nat,n=l.length-i∧i≤l.length∧e 0=.d (.sl (l.map aT))∧e 1=i64 top∧e 10=.d (.sl (l.map aT))∧e 11=i64 l.length∧e 12=i64 i∧s=[]∧oW top (-2) l=oW top (iU l i) (l.drop i)∧(0<i→0≤iU l i∧iU l i≤top))
  ⟨_,_,_,dw.refl,0,rfl,by omega,rfl,rfl,rfl,rfl,rfl,rfl,rfl,fun h=>absurd h (by omega)⟩ ?_
 rintro n e s ⟨i,rfl,hi,h0,h1,gu,kV,eU,rfl,dr,MY⟩
 rcases Xw i l.length with aS|lW
 ·obtain⟨k,hk⟩:∃k,l[i]?=some k:=⟨_,WZ aS⟩
  have hd:l.drop i=k::l.drop (i+1):=by
   rw[XV aS]
   rw[WZ aS]at hk
   simp only[WX]at hk
   rw[hk]
  rw[hd]at dr
  simp only[oW]at dr
  have Ef:iU l (i+1)=k.2:=by simp [iU,hk]
  simp only[zX,simprocAttr,i64,h0,h1,gu,kV,eU,aS,hk,aT,iD]
  refine aq mix [] [] (by rfl) ?_
  cases i with
  |zero =>
   have dr:oW top (-2) l=(decide (0≤k.1∧k.1≤k.2∧k.2≤top∧-2+1<k.1)&&oW top k.2 (l.drop (0+1))):=dr
   simp only[zX,simprocAttr,i64,h0,h1,gu,kV,eU,hk,aT,iD,W8]
   repeat' (first
 |(with_reducible refine And.intro (by first|omega|exact⟨by omega,by omega⟩|(simp;done)) ?_)
 |(with_reducible refine je (fun hc=>?_) (fun hc=>?_) <;> simp only[zX,simprocAttr,i64,h0,h1,gu,kV,eU,hk,aT,iD,W8,hc])
 |(with_reducible refine dR (fun hc=>?_) (fun hc=>?_) <;> simp only[zX,simprocAttr,i64,h0,h1,gu,kV,eU,hk,aT,iD,W8,hc])
 |(with_reducible refine dQ (fun hc=>?_) (fun hc=>?_) <;> simp only[zX,simprocAttr,i64,h0,h1,gu,kV,eU,hk,aT,iD,W8,hc])
 |(with_reducible refine de (fun hc=>?_) (fun hc=>?_) <;> simp only[zX,simprocAttr,i64,h0,h1,gu,kV,eU,hk,aT,iD,W8,hc])
 |(with_reducible refine dh (fun hc=>?_) (fun hc=>?_) <;> simp only[zX,simprocAttr,i64,h0,h1,gu,kV,eU,hk,aT,iD,W8,hc])
 |(with_reducible refine gi (fun hc=>?_) (fun hc=>?_) <;> simp only[zX,simprocAttr,i64,h0,h1,gu,kV,eU,hk,aT,iD,W8,hc])
 |(with_reducible refine dP (fun hc=>?_) (fun hc=>?_) <;> simp only[zX,simprocAttr,i64,h0,h1,gu,kV,eU,hk,aT,iD,W8,hc]))
   any_goals (refine congrArg bV (Eq.symm ?_);rw[dr,show decide (0≤k.1∧k.1≤k.2∧k.2≤top∧-2+1<k.1)=false from decide_eq_false (by omega)];rfl)
   refine⟨l.length-1,_,_,by omega,dw.cut 0 (by omega) rfl rfl [0,1,10,11,12] ?_,1,rfl,aS,?_,?_,?_,?_,?_,rfl,?_,?_⟩ <;> (try simp only[zU,Nat.reduceBEq,Nat.reduceShiftRight,Nat.reduceMod,Nat.reduceEqDiff,reduceIte])
   ·simp [bW,ba,ao,h0,h1,gu,kV,i64]
   ·exact h0
   ·exact h1
   ·exact gu
   ·exact kV
   ·rw[bU _ (by omega)];rfl
   ·rw[dr,Ef,show decide (0≤k.1∧k.1≤k.2∧k.2≤top∧-2+1<k.1)=true from decide_eq_true (by omega)];rfl
   ·intro _;rw[Ef];omega
  |succ j =>
   obtain⟨kp,x8⟩:∃k,l[j]?=some k:=⟨_,WZ (by omega:j<l.length)⟩
   have Tv:iU l (j+1)=kp.2:=by simp [iU,x8]
   have MY:=MY (by omega)
   rw[Tv]at MY dr
   have w1:IntKind.i64.wrap (((j+1:Nat):Int)-1)=(j:Int):=by rw[bU _ (by omega)];omega
   have w2:IntKind.i64.wrap (kp.2+2)=kp.2+2:=bU _ (by omega)
   have p0:(0:Int)<((j+1:Nat):Int):=by omega
   have q2:(j:Int)<l.length:=by omega
   simp only[zX,simprocAttr,i64,h0,h1,gu,kV,eU,hk,aT,iD,x8,w1,w2,p0,q2]
   repeat' (first
 |(with_reducible refine And.intro (by first|omega|exact⟨by omega,by omega⟩|(simp;done)) ?_)
 |(with_reducible refine je (fun hc=>?_) (fun hc=>?_) <;> simp only[zX,simprocAttr,i64,h0,h1,gu,kV,eU,hk,aT,iD,x8,w1,w2,p0,q2,hc])
 |(with_reducible refine dR (fun hc=>?_) (fun hc=>?_) <;> simp only[zX,simprocAttr,i64,h0,h1,gu,kV,eU,hk,aT,iD,x8,w1,w2,p0,q2,hc])
 |(with_reducible refine dQ (fun hc=>?_) (fun hc=>?_) <;> simp only[zX,simprocAttr,i64,h0,h1,gu,kV,eU,hk,aT,iD,x8,w1,w2,p0,q2,hc])
 |(with_reducible refine de (fun hc=>?_) (fun hc=>?_) <;> simp only[zX,simprocAttr,i64,h0,h1,gu,kV,eU,hk,aT,iD,x8,w1,w2,p0,q2,hc])
 |(with_reducible refine dh (fun hc=>?_) (fun hc=>?_) <;> simp only[zX,simprocAttr,i64,h0,h1,gu,kV,eU,hk,aT,iD,x8,w1,w2,p0,q2,hc])
 |(with_reducible refine gi (fun hc=>?_) (fun hc=>?_) <;> simp only[zX,simprocAttr,i64,h0,h1,gu,kV,eU,hk,aT,iD,x8,w1,w2,p0,q2,hc])
 |(with_reducible refine dP (fun hc=>?_) (fun hc=>?_) <;> simp only[zX,simprocAttr,i64,h0,h1,gu,kV,eU,hk,aT,iD,x8,w1,w2,p0,q2,hc]))
   any_goals (refine congrArg bV (Eq.symm ?_);rw[dr,show decide (0≤k.1∧k.1≤k.2∧k.2≤top∧kp.2+1<k.1)=false from decide_eq_false (by omega)];rfl)
   refine⟨l.length-(j+1+1),_,_,by omega,dw.cut 0 (by omega) rfl rfl [0,1,10,11,12] ?_,j+1+1,rfl,aS,?_,?_,?_,?_,?_,rfl,?_,?_⟩ <;> (try simp only[zU,Nat.reduceBEq,Nat.reduceShiftRight,Nat.reduceMod,Nat.reduceEqDiff,reduceIte])
   ·simp [bW,ba,ao,h0,h1,gu,kV,i64]
   ·exact h0
   ·exact h1
   ·exact gu
   ·exact kV
   ·rw[bU _ (by omega)];rfl
   ·rw[dr,Ef,show decide (0≤k.1∧k.1≤k.2∧k.2≤top∧kp.2+1<k.1)=true from decide_eq_true (by omega)];rfl
   ·intro _;rw[Ef];omega
 ·have iQ:i=l.length:=by omega
  subst iQ
  simp only[zX,simprocAttr,i64,h0,h1,gu,kV,eU,XP]
  rw[dr]
  simp [oW,bV]
theorem JJ (re:Re) (hf:re.fA=true) (ak top:Int) (ht:top≤1114111) (Jw:re.op=1∨re.op=4∨(¬re.op=0∧¬re.op=1∧¬re.op=2∧¬re.op=3∧¬re.op=4∧¬re.op=5∧¬re.op=6∧¬re.op=7∧¬re.op=8∧¬re.op=9∧¬re.op=10∧¬re.op=11)):br prog 35 [bT re,i64 ak,i64 top] (bV (b7 re ak top)):=by
 obtain⟨pf,hlen,J4⟩:=Re.gR hf
 have dr:=xp re.set pf top ht
 have D9:=Fl re
 rw[bT,Re.ae]at D9
 simp only[i64,iD,bD]at dr D9
 rcases Jw with p|p|⟨p0,p1,p2,p3,p4,p5,p6,p7,p8,p9,Si,SM⟩
 case inr.inr =>
  rw[show b7 re ak top=false by simp only[b7];rw[decide_eq_false (by omega)];rfl]
  by_cases n1:1≤re.n
  ·by_cases n2:re.n≤ak
   ·refine aw func35 rfl ntmps35 results35 rfl 0 77371252473350734410155975 (by simp) (by simp) ?_
    simp only[zX,simprocAttr,i64,bT,Re.ae re,iD,bD,p0,p1,p2,p3,p4,p5,p6,p7,p8,p9,Si,SM,n1,n2]
    all_goals first|exact⟨rfl,rfl⟩|exact⟨rfl,trivial⟩|rfl|trivial|(rw[ay];rfl)
   ·refine aw func35 rfl ntmps35 results35 rfl 0 77371252473350734410155975 (by simp) (by simp) ?_
    simp only[zX,simprocAttr,i64,bT,Re.ae re,iD,bD,p0,p1,p2,p3,p4,p5,p6,p7,p8,p9,Si,SM,n1,n2]
    all_goals first|exact⟨rfl,rfl⟩|exact⟨rfl,trivial⟩|rfl|trivial|(rw[ay];rfl)
  ·refine aw func35 rfl ntmps35 results35 rfl 0 77371252473350734410155975 (by simp) (by simp) ?_
   simp only[zX,simprocAttr,i64,bT,Re.ae re,iD,bD,p0,p1,p2,p3,p4,p5,p6,p7,p8,p9,Si,SM,n1]
   all_goals first|exact⟨rfl,rfl⟩|exact⟨rfl,trivial⟩|rfl|trivial|(rw[ay];rfl)
 case inl =>
  generalize hv:gL re.set top=sv at dr
  cases sv
  all_goals
   refine aw func35 rfl ntmps35 results35 rfl 0 77371252473350734410155975 (by simp) (by simp) ?_
   simp only[zX,simprocAttr,i64,bT,Re.ae re,iD,bD,p,Xa,W8]
   repeat' (first
 |(with_reducible refine And.intro (by first|omega|exact⟨by omega,by omega⟩|(simp;done)) ?_)
 |(with_reducible refine je (fun hc=>?_) (fun hc=>?_) <;> simp only[zX,simprocAttr,i64,iD,bD,p,Xa,W8,hc])
 |(with_reducible refine dR (fun hc=>?_) (fun hc=>?_) <;> simp only[zX,simprocAttr,i64,iD,bD,p,Xa,W8,hc])
 |(with_reducible refine dQ (fun hc=>?_) (fun hc=>?_) <;> simp only[zX,simprocAttr,i64,iD,bD,p,Xa,W8,hc])
 |(with_reducible refine de (fun hc=>?_) (fun hc=>?_) <;> simp only[zX,simprocAttr,i64,iD,bD,p,Xa,W8,hc])
 |(with_reducible refine dh (fun hc=>?_) (fun hc=>?_) <;> simp only[zX,simprocAttr,i64,iD,bD,p,Xa,W8,hc])
 |(with_reducible refine gi (fun hc=>?_) (fun hc=>?_) <;> simp only[zX,simprocAttr,i64,iD,bD,p,Xa,W8,hc])
 |(with_reducible refine dP (fun hc=>?_) (fun hc=>?_) <;> simp only[zX,simprocAttr,i64,iD,bD,p,Xa,W8,hc]))
  any_goals
   refine aD dr (by simp [ao,ao.go,ay,i64,bV,bT]) (by simp [ao,ao.go,ay,i64,bV,bT]) ?_
   simp only[zX,simprocAttr,i64,iD,bD,p,bV,Xa,W8]
  any_goals
   repeat' (first
 |(with_reducible refine And.intro (by first|omega|exact⟨by omega,by omega⟩|(simp;done)) ?_)
 |(with_reducible refine je (fun hc=>?_) (fun hc=>?_) <;> simp only[zX,simprocAttr,i64,iD,bD,p,bV,Xa,W8,hc])
 |(with_reducible refine dR (fun hc=>?_) (fun hc=>?_) <;> simp only[zX,simprocAttr,i64,iD,bD,p,bV,Xa,W8,hc])
 |(with_reducible refine dQ (fun hc=>?_) (fun hc=>?_) <;> simp only[zX,simprocAttr,i64,iD,bD,p,bV,Xa,W8,hc])
 |(with_reducible refine de (fun hc=>?_) (fun hc=>?_) <;> simp only[zX,simprocAttr,i64,iD,bD,p,bV,Xa,W8,hc])
 |(with_reducible refine dh (fun hc=>?_) (fun hc=>?_) <;> simp only[zX,simprocAttr,i64,iD,bD,p,bV,Xa,W8,hc])
 |(with_reducible refine gi (fun hc=>?_) (fun hc=>?_) <;> simp only[zX,simprocAttr,i64,iD,bD,p,bV,Xa,W8,hc])
 |(with_reducible refine dP (fun hc=>?_) (fun hc=>?_) <;> simp only[zX,simprocAttr,i64,iD,bD,p,bV,Xa,W8,hc]))
  all_goals
   rcases XW re.neg with cu|cu
   all_goals
    try (exfalso;rw[cu]at hc;exact absurd hc (by decide);done)
    try simp only[cu,WY,W0]
    first
     |(first|refine congrArg bV (Eq.symm (Bool.eq_false_iff.2 fun h=>?_))|refine Eq.symm (Bool.eq_false_iff.2 fun h=>?_)
       simp only[b7,cR,p,cu,Int.reduceEq,or_self,if_false,or_true,true_or,or_false,false_or,if_true,reduceIte,W7,decide_eq_true_eq,WY,W0,Xq,Xj,reduceCtorEq,W2,false_and,and_false,true_and,and_true,hv]at h
       try omega
       done)
     |(first|refine congrArg bV (Eq.symm ?_)|refine Eq.symm ?_
       simp only[b7,cR,p,cu,Int.reduceEq,or_self,if_false,or_true,true_or,or_false,false_or,if_true,reduceIte,W7,decide_eq_true_eq,WY,W0,Xq,Xj,reduceCtorEq,W2,false_and,and_false,true_and,and_true,hv]
       try omega
       done)
 case inr.inl =>
  have Ln:Be re=true ↔ (0≤re.mn∧re.mn≤32∧0≤re.mode∧re.mode≤2∧(re.mx=-1∨(1≤re.mx∧re.mx≤32∧re.mn≤re.mx))):=by unfold Be;rw[decide_eq_true_eq]
  generalize hv:Be re=sv at D9 Ln
  cases sv
  all_goals
   simp only[W2,false_iff,true_iff]at Ln
   refine aw func35 rfl ntmps35 results35 rfl 0 77371252473350734410155975 (by simp) (by simp) ?_
   simp only[zX,simprocAttr,i64,bT,Re.ae re,iD,bD,p,Xa,W8]
   repeat' (first
 |(with_reducible refine And.intro (by first|omega|exact⟨by omega,by omega⟩|(simp;done)) ?_)
 |(with_reducible refine je (fun hc=>?_) (fun hc=>?_) <;> simp only[zX,simprocAttr,i64,iD,bD,p,Xa,W8,hc])
 |(with_reducible refine dR (fun hc=>?_) (fun hc=>?_) <;> simp only[zX,simprocAttr,i64,iD,bD,p,Xa,W8,hc])
 |(with_reducible refine dQ (fun hc=>?_) (fun hc=>?_) <;> simp only[zX,simprocAttr,i64,iD,bD,p,Xa,W8,hc])
 |(with_reducible refine de (fun hc=>?_) (fun hc=>?_) <;> simp only[zX,simprocAttr,i64,iD,bD,p,Xa,W8,hc])
 |(with_reducible refine dh (fun hc=>?_) (fun hc=>?_) <;> simp only[zX,simprocAttr,i64,iD,bD,p,Xa,W8,hc])
 |(with_reducible refine gi (fun hc=>?_) (fun hc=>?_) <;> simp only[zX,simprocAttr,i64,iD,bD,p,Xa,W8,hc])
 |(with_reducible refine dP (fun hc=>?_) (fun hc=>?_) <;> simp only[zX,simprocAttr,i64,iD,bD,p,Xa,W8,hc]))
  any_goals
   rw[p]at D9
   refine aD D9 (by simp [ao,ao.go,ay,i64,bV,bT]) (by simp [ao,ao.go,ay,i64,bV,bT]) ?_
   simp only[zX,simprocAttr,i64,iD,bD,p,bV,Xa,W8]
  any_goals
   repeat' (first
 |(with_reducible refine And.intro (by first|omega|exact⟨by omega,by omega⟩|(simp;done)) ?_)
 |(with_reducible refine je (fun hc=>?_) (fun hc=>?_) <;> simp only[zX,simprocAttr,i64,iD,bD,p,bV,Xa,W8,hc])
 |(with_reducible refine dR (fun hc=>?_) (fun hc=>?_) <;> simp only[zX,simprocAttr,i64,iD,bD,p,bV,Xa,W8,hc])
 |(with_reducible refine dQ (fun hc=>?_) (fun hc=>?_) <;> simp only[zX,simprocAttr,i64,iD,bD,p,bV,Xa,W8,hc])
 |(with_reducible refine de (fun hc=>?_) (fun hc=>?_) <;> simp only[zX,simprocAttr,i64,iD,bD,p,bV,Xa,W8,hc])
 |(with_reducible refine dh (fun hc=>?_) (fun hc=>?_) <;> simp only[zX,simprocAttr,i64,iD,bD,p,bV,Xa,W8,hc])
 |(with_reducible refine gi (fun hc=>?_) (fun hc=>?_) <;> simp only[zX,simprocAttr,i64,iD,bD,p,bV,Xa,W8,hc])
 |(with_reducible refine dP (fun hc=>?_) (fun hc=>?_) <;> simp only[zX,simprocAttr,i64,iD,bD,p,bV,Xa,W8,hc]))
  all_goals
   rcases XW re.neg with cu|cu
   all_goals
    try (exfalso;rw[cu]at hc;exact absurd hc (by decide);done)
    try simp only[cu,WY,W0]
    first
     |(first|refine congrArg bV (Eq.symm (Bool.eq_false_iff.2 fun h=>?_))|refine Eq.symm (Bool.eq_false_iff.2 fun h=>?_)
       simp only[b7,cR,p,cu,Int.reduceEq,or_self,if_false,or_true,true_or,or_false,false_or,if_true,reduceIte,W7,decide_eq_true_eq,WY,W0,Xq,Xj,reduceCtorEq,W2,false_and,and_false,true_and,and_true]at h
       try omega
       done)
     |(first|refine congrArg bV (Eq.symm ?_)|refine Eq.symm ?_
       simp only[b7,cR,p,cu,Int.reduceEq,or_self,if_false,or_true,true_or,or_false,false_or,if_true,reduceIte,W7,decide_eq_true_eq,WY,W0,Xq,Xj,reduceCtorEq,W2,false_and,and_false,true_and,and_true]
       try omega
       done)
end Go.Proofs.YtmihcpdhcillaaaGreat
