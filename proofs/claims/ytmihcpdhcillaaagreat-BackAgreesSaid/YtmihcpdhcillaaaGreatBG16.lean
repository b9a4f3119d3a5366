/- A part of the proof (F34 F35 F36). -/
import Derived.Test.YtmihcpdhcillaaaGreatBG2
import Derived.Test.YtmihcpdhcillaaaGreatBG3
import Derived.Test.YtmihcpdhcillaaaGreatBG7
import Derived.Test.YtmihcpdhcillaaaGreatBG5
set_option linter.unusedSimpArgs false
set_option linter.unusedVariables false
set_option maxRecDepth 100000
set_option maxHeartbeats 80000000
set_option linter.unusedSimpArgs false
set_option linter.unusedVariables false
namespace Go.Proofs.YtmihcpdhcillaaaGreat
open Go.VL Go.Proofs.Tryz
def cR (op:Int):Int×Int :=
 if op=2∨op=3 then (2,-1) else if op=4∨op=5∨op=7∨op=8∨op=9 then (1,1) else if op=10 then (2,2) else (0,0)
theorem Fs (op:Int):br prog 106 [i64 op] (.tu [i64 (cR op).1,i64 (cR op).2]):=by
 have rE:op=2∨op=3∨op=4∨op=5∨op=7∨op=8∨op=9∨op=10∨(¬op=2∧¬op=3∧¬op=4∧¬op=5∧¬op=7∧¬op=8∧¬op=9∧¬op=10):=by omega
 rcases rE with p|p|p|p|p|p|p|p|⟨p1,p2,p3,p4,p5,p6,p7,p8⟩
 all_goals
  first
   |(rw[p]
     refine aw func106 rfl ntmps106 results106 rfl 0 317 (by simp) (by simp) ?_
     simp only[zW,simprocAttr,i64]
     all_goals first|exact⟨rfl,rfl⟩|exact⟨rfl,trivial⟩|rfl|trivial|(rw[ay];rfl))
   |(rw[show cR op=(0,0) by simp [cR,p1,p2,p3,p4,p5,p6,p7,p8]]
     refine aw func106 rfl ntmps106 results106 rfl 0 317 (by simp) (by simp) ?_
     simp only[zW,simprocAttr,i64,p1,p2,p3,p4,p5,p6,p7,p8]
     all_goals first|exact⟨rfl,rfl⟩|exact⟨rfl,trivial⟩|rfl|trivial|(rw[ay];rfl))
def oW (top:Int):Int→List (Int×Int)→Bool
 |_,[]=>true
 |p,s::l=>decide (0≤s.1∧s.1≤s.2∧s.2≤top∧p+1<s.1)&&oW top s.2 l
def gL (l:List (Int×Int)) (top:Int):Bool:=decide (l.length≤64)&&oW top (-2) l
def iU (l:List (Int×Int)):Nat→Int
 |0=>-2
 |i+1=>(l[i]?.map (·.2)).getD 0
theorem CR (l:List (Int×Int)) (hl:l.length≤1000000000) (top:Int) (ht:top≤1114111):br prog 107 [.d (.sl (l.map aT)),i64 top] (bV (gL l top)):=by
 refine aw func107 rfl ntmps107 results107 rfl 0 51 (by simp) (by simp) ?_
 by_cases PV:(64:Int)<l.length
 ·simp only[zX,simprocAttr,i64,PV]
  have:¬l.length≤64:=by omega
  simp [gL,bV,this]
 have OG:l.length≤64:=by omega
 have hR:gL l top=oW top (-2) l:=by simp [gL,OG]
 rw[hR]
 simp only[zX,simprocAttr,i64,PV]
 refine aX (fun n e s=>∃i:Nat,n=l.length-i∧i≤l.length∧e 0=.d (.sl (l.map aT))∧e 1=i64 top∧e 5=i64 i∧s=[]∧oW top (-2) l=oW top (iU l i) (l.drop i)∧(0<i→0≤iU l i∧iU l i≤top))
  ⟨_,_,_,dw.refl,0,rfl,by omega,rfl,rfl,rfl,rfl,rfl,fun h=>absurd h (by omega)⟩ ?_
 rintro n e s ⟨i,rfl,hi,h0,h1,h5,rfl,dr,MY⟩
 rcases Xw i l.length with aS|lW
 ·obtain⟨k,hk⟩:∃k,l[i]?=some k:=⟨_,WZ aS⟩
  have hd:l.drop i=k::l.drop (i+1):=by
   rw[XV aS]
   rw[WZ aS]at hk
   simp only[WX]at hk
   rw[hk]
  rw[hd]at dr
  simp only[oW]at dr
  have Ef:iU l (i+1)=k.2:=by simp [iU,hk]
  simp only[zX,simprocAttr,i64,h0,h1,h5,aS]
  refine aq mix [] [] (by rfl) ?_
  cases i with
  |zero =>
   have dr:oW top (-2) l=(decide (0≤k.1∧k.1≤k.2∧k.2≤top∧-2+1<k.1)&&oW top k.2 (l.drop (0+1))):=dr
   simp only[zX,simprocAttr,i64,h0,h1,h5,hk,aT,iD,W8]
   repeat' (first
 |(with_reducible refine And.intro (by first|omega|exact⟨by omega,by omega⟩|(simp;done)) ?_)
 |(with_reducible refine je (fun hc=>?_) (fun hc=>?_) <;> simp only[zX,simprocAttr,i64,h0,h1,h5,hk,aT,iD,W8,hc])
 |(with_reducible refine dR (fun hc=>?_) (fun hc=>?_) <;> simp only[zX,simprocAttr,i64,h0,h1,h5,hk,aT,iD,W8,hc])
 |(with_reducible refine dQ (fun hc=>?_) (fun hc=>?_) <;> simp only[zX,simprocAttr,i64,h0,h1,h5,hk,aT,iD,W8,hc])
 |(with_reducible refine de (fun hc=>?_) (fun hc=>?_) <;> simp only[zX,simprocAttr,i64,h0,h1,h5,hk,aT,iD,W8,hc])
 |(with_reducible refine dh (fun hc=>?_) (fun hc=>?_) <;> simp only[zX,simprocAttr,i64,h0,h1,h5,hk,aT,iD,W8,hc])
 |(with_reducible refine gi (fun hc=>?_) (fun hc=>?_) <;> simp only[zX,simprocAttr,i64,h0,h1,h5,hk,aT,iD,W8,hc])
 |(with_reducible refine dP (fun hc=>?_) (fun hc=>?_) <;> simp only[zX,simprocAttr,i64,h0,h1,h5,hk,aT,iD,W8,hc]))
   any_goals (refine congrArg bV (Eq.symm ?_);rw[dr,show decide (0≤k.1∧k.1≤k.2∧k.2≤top∧-2+1<k.1)=false from decide_eq_false (by omega)];rfl)
   refine⟨l.length-1,_,_,by omega,dw.refl,1,rfl,aS,?_,?_,?_,rfl,?_,?_⟩ <;> (try simp only[zU,Nat.reduceBEq,Nat.reduceShiftRight,Nat.reduceMod,Nat.reduceEqDiff,reduceIte])
   ·exact h0
   ·exact h1
   ·rw[bU _ (by omega)];rfl
   ·rw[dr,Ef,show decide (0≤k.1∧k.1≤k.2∧k.2≤top∧-2+1<k.1)=true from decide_eq_true (by omega)];rfl
   ·intro _;rw[Ef];omega
  |succ j =>
   obtain⟨kp,x8⟩:∃k,l[j]?=some k:=⟨_,WZ (by omega:j<l.length)⟩
   have Tv:iU l (j+1)=kp.2:=by simp [iU,x8]
   have MY:=MY (by omega)
   rw[Tv]at MY dr
   have w1:IntKind.i64.wrap (((j+1:Nat):Int)-1)=(j:Int):=by rw[bU _ (by omega)];omega
   have w2:IntKind.i64.wrap (kp.2+1)=kp.2+1:=bU _ (by omega)
   have p0:(0:Int)<((j+1:Nat):Int):=by omega
   have q0:(0:Int)≤((j+1:Nat):Int):=by omega
   have q1:((j+1:Nat):Int)<l.length:=by omega
   have q2:(j:Int)<l.length:=by omega
   simp only[zX,simprocAttr,i64,h0,h1,h5,hk,aT,iD,x8,w1,w2,p0,q0,q1,q2]
   repeat' (first
 |(with_reducible refine And.intro (by first|omega|exact⟨by omega,by omega⟩|(simp;done)) ?_)
 |(with_reducible refine je (fun hc=>?_) (fun hc=>?_) <;> simp only[zX,simprocAttr,i64,h0,h1,h5,hk,aT,iD,x8,w1,w2,p0,q0,q1,q2,hc])
 |(with_reducible refine dR (fun hc=>?_) (fun hc=>?_) <;> simp only[zX,simprocAttr,i64,h0,h1,h5,hk,aT,iD,x8,w1,w2,p0,q0,q1,q2,hc])
 |(with_reducible refine dQ (fun hc=>?_) (fun hc=>?_) <;> simp only[zX,simprocAttr,i64,h0,h1,h5,hk,aT,iD,x8,w1,w2,p0,q0,q1,q2,hc])
 |(with_reducible refine de (fun hc=>?_) (fun hc=>?_) <;> simp only[zX,simprocAttr,i64,h0,h1,h5,hk,aT,iD,x8,w1,w2,p0,q0,q1,q2,hc])
 |(with_reducible refine dh (fun hc=>?_) (fun hc=>?_) <;> simp only[zX,simprocAttr,i64,h0,h1,h5,hk,aT,iD,x8,w1,w2,p0,q0,q1,q2,hc])
 |(with_reducible refine gi (fun hc=>?_) (fun hc=>?_) <;> simp only[zX,simprocAttr,i64,h0,h1,h5,hk,aT,iD,x8,w1,w2,p0,q0,q1,q2,hc])
 |(with_reducible refine dP (fun hc=>?_) (fun hc=>?_) <;> simp only[zX,simprocAttr,i64,h0,h1,h5,hk,aT,iD,x8,w1,w2,p0,q0,q1,q2,hc]))
   any_goals (refine congrArg bV (Eq.symm ?_);rw[dr,show decide (0≤k.1∧k.1≤k.2∧k.2≤top∧kp.2+1<k.1)=false from decide_eq_false (by omega)];rfl)
   refine⟨l.length-(j+1+1),_,_,by omega,dw.refl,j+1+1,rfl,aS,?_,?_,?_,rfl,?_,?_⟩ <;> (try simp only[zU,Nat.reduceBEq,Nat.reduceShiftRight,Nat.reduceMod,Nat.reduceEqDiff,reduceIte])
   ·exact h0
   ·exact h1
   ·rw[bU _ (by omega)];rfl
   ·rw[dr,Ef,show decide (0≤k.1∧k.1≤k.2∧k.2≤top∧kp.2+1<k.1)=true from decide_eq_true (by omega)];rfl
   ·intro _;rw[Ef];omega
 ·have iQ:i=l.length:=by omega
  subst iQ
  simp only[zX,simprocAttr,i64,h0,h1,h5,XP]
  rw[dr]
  simp [oW,bV]
def b7 (re:Re) (ak top:Int):Bool :=
 decide (0≤re.op∧re.op≤11∧(cR re.op).1≤re.kids.length∧((cR re.op).2<0∨(re.kids.length:Int)≤(cR re.op).2)) &&
 ((if re.op=1 then gL re.set top else decide (re.set.length=0)) &&
 ((if re.op=4 then decide (0≤re.mn∧re.mn≤32∧-1≤re.mx∧re.mx≠0∧re.mx≤32∧(0<re.mx→re.mn≤re.mx)∧0≤re.mode∧re.mode≤2) else decide (re.mn=0∧re.mx=0∧re.mode=0)) &&
 ((if re.op=5∨re.op=6∨re.op=10 then decide (1≤re.n∧re.n≤ak) else if re.op=11 then decide (0≤re.n∧re.n≤5) else decide (re.n=0)) &&
 (!re.neg||decide (re.op=7∨re.op=8)))))
theorem AQ (re:Re) (hf:re.fA=true) (ak top:Int) (ht:top≤1114111):br prog 100 [lk re,i64 ak,i64 top] (bV (b7 re ak top)):=by
 obtain⟨pf,hlen,J4⟩:=Re.gR hf
 have dr:=CR re.set pf top ht
 have Hp:=Fs re.op
 by_cases ho:re.op<0∨11<re.op
 ·rw[show b7 re ak top=false by simp only[b7];rw[decide_eq_false (by omega)];rfl]
  have Qp:re.op<0∨(¬re.op<0∧11<re.op):=by omega
  refine aw func100 rfl ntmps100 results100 rfl 0 361550014853497117429835520396253725135 (by simp) (by simp) ?_
  simp only[zX,simprocAttr,i64,ay re,iD,bD]
  refine aD Hp (by simp [ao,ao.go,ay,i64,bV,bT]) (by simp [ao,ao.go,ay,i64,bV,bT]) ?_
  rcases Qp with h1|⟨h1,h2⟩
  ·simp only[zX,simprocAttr,i64,ay re,iD,bD,h1]
   rfl
  ·simp only[zX,simprocAttr,i64,ay re,iD,bD,h1,h2]
   rfl
 ·have hc:re.op=0∨re.op=1∨re.op=2∨re.op=3∨re.op=4∨re.op=5∨re.op=6∨re.op=7∨re.op=8∨re.op=9∨re.op=10∨re.op=11:=by omega
  clear ho
  rcases hc with p|p|p|p|p|p|p|p|p|p|p|p
  case inr.inl =>
   rw[p]at Hp
   simp only[cR,Int.reduceEq,or_self,if_false,or_true,true_or,or_false,false_or,if_true,reduceIte]at Hp
   generalize hv:gL re.set top=sv at dr
   cases sv
   all_goals
    refine aw func100 rfl ntmps100 results100 rfl 0 361550014853497117429835520396253725135 (by simp) (by simp) ?_
    simp only[zX,simprocAttr,i64,ay re,iD,bD,p]
    refine aD Hp (by simp [ao,ao.go,ay,i64,bV,bT]) (by simp [ao,ao.go,ay,i64,bV,bT]) ?_
    simp only[zX,simprocAttr,i64,ay re,iD,bD,p]
    repeat' (first
 |(with_reducible refine And.intro (by first|omega|exact⟨by omega,by omega⟩|(simp;done)) ?_)
 |(with_reducible refine je (fun hc=>?_) (fun hc=>?_) <;> simp only[zX,simprocAttr,i64,ay re,iD,bD,p,hc])
 |(with_reducible refine dR (fun hc=>?_) (fun hc=>?_) <;> simp only[zX,simprocAttr,i64,ay re,iD,bD,p,hc])
 |(with_reducible refine dQ (fun hc=>?_) (fun hc=>?_) <;> simp only[zX,simprocAttr,i64,ay re,iD,bD,p,hc])
 |(with_reducible refine de (fun hc=>?_) (fun hc=>?_) <;> simp only[zX,simprocAttr,i64,ay re,iD,bD,p,hc])
 |(with_reducible refine dh (fun hc=>?_) (fun hc=>?_) <;> simp only[zX,simprocAttr,i64,ay re,iD,bD,p,hc])
 |(with_reducible refine gi (fun hc=>?_) (fun hc=>?_) <;> simp only[zX,simprocAttr,i64,ay re,iD,bD,p,hc])
 |(with_reducible refine dP (fun hc=>?_) (fun hc=>?_) <;> simp only[zX,simprocAttr,i64,ay re,iD,bD,p,hc]))
   any_goals
    refine aD dr (by simp [ao,ao.go,ay,i64,bV,bT]) (by simp [ao,ao.go,ay,i64,bV,bT]) ?_
    simp only[zX,simprocAttr,i64,ay re,iD,bD,p,bV]
   any_goals
    repeat' (first
 |(with_reducible refine And.intro (by first|omega|exact⟨by omega,by omega⟩|(simp;done)) ?_)
 |(with_reducible refine je (fun hc=>?_) (fun hc=>?_) <;> simp only[zX,simprocAttr,i64,ay re,iD,bD,p,bV,hc])
 |(with_reducible refine dR (fun hc=>?_) (fun hc=>?_) <;> simp only[zX,simprocAttr,i64,ay re,iD,bD,p,bV,hc])
 |(with_reducible refine dQ (fun hc=>?_) (fun hc=>?_) <;> simp only[zX,simprocAttr,i64,ay re,iD,bD,p,bV,hc])
 |(with_reducible refine de (fun hc=>?_) (fun hc=>?_) <;> simp only[zX,simprocAttr,i64,ay re,iD,bD,p,bV,hc])
 |(with_reducible refine dh (fun hc=>?_) (fun hc=>?_) <;> simp only[zX,simprocAttr,i64,ay re,iD,bD,p,bV,hc])
 |(with_reducible refine gi (fun hc=>?_) (fun hc=>?_) <;> simp only[zX,simprocAttr,i64,ay re,iD,bD,p,bV,hc])
 |(with_reducible refine dP (fun hc=>?_) (fun hc=>?_) <;> simp only[zX,simprocAttr,i64,ay re,iD,bD,p,bV,hc]))
   all_goals
    rcases XW re.neg with cu|cu
    all_goals
     try (exfalso;rw[cu]at hc;exact absurd hc (by decide);done)
     try first
      |(first|refine congrArg bV (Eq.symm (Bool.eq_false_iff.2 fun h=>?_))|refine Eq.symm (Bool.eq_false_iff.2 fun h=>?_)
        simp only[b7,cR,p,cu,hv,Int.reduceEq,or_self,if_false,or_true,true_or,or_false,false_or,if_true,reduceIte,W7,decide_eq_true_eq,WY,W0,Xq,Xj,reduceCtorEq,W2,false_and,and_false,true_and,and_true]at h
        try omega
        done)
      |(first|refine congrArg bV (Eq.symm ?_)|refine Eq.symm ?_
        simp only[b7,cR,p,cu,hv,Int.reduceEq,or_self,if_false,or_true,true_or,or_false,false_or,if_true,reduceIte,W7,decide_eq_true_eq,WY,W0,Xq,Xj,reduceCtorEq,W2,false_and,and_false,true_and,and_true]
        try omega
        done)
  all_goals
   rw[p]at Hp
   simp only[cR,Int.reduceEq,or_self,if_false,or_true,true_or,or_false,false_or,if_true,reduceIte]at Hp
   refine aw func100 rfl ntmps100 results100 rfl 0 361550014853497117429835520396253725135 (by simp) (by simp) ?_
   simp only[zX,simprocAttr,i64,ay re,iD,bD,p]
   refine aD Hp (by simp [ao,ao.go,ay,i64,bV,bT]) (by simp [ao,ao.go,ay,i64,bV,bT]) ?_
   simp only[zX,simprocAttr,i64,ay re,iD,bD,p]
   repeat' (first
 |(with_reducible refine And.intro (by first|omega|exact⟨by omega,by omega⟩|(simp;done)) ?_)
 |(with_reducible refine je (fun hc=>?_) (fun hc=>?_) <;> simp only[zX,simprocAttr,i64,ay re,iD,bD,p,hc])
 |(with_reducible refine dR (fun hc=>?_) (fun hc=>?_) <;> simp only[zX,simprocAttr,i64,ay re,iD,bD,p,hc])
 |(with_reducible refine dQ (fun hc=>?_) (fun hc=>?_) <;> simp only[zX,simprocAttr,i64,ay re,iD,bD,p,hc])
 |(with_reducible refine de (fun hc=>?_) (fun hc=>?_) <;> simp only[zX,simprocAttr,i64,ay re,iD,bD,p,hc])
 |(with_reducible refine dh (fun hc=>?_) (fun hc=>?_) <;> simp only[zX,simprocAttr,i64,ay re,iD,bD,p,hc])
 |(with_reducible refine gi (fun hc=>?_) (fun hc=>?_) <;> simp only[zX,simprocAttr,i64,ay re,iD,bD,p,hc])
 |(with_reducible refine dP (fun hc=>?_) (fun hc=>?_) <;> simp only[zX,simprocAttr,i64,ay re,iD,bD,p,hc]))
  all_goals
   rcases XW re.neg with cu|cu
   all_goals
    try (exfalso;rw[cu]at hc;exact absurd hc (by decide);done)
    try first
     |(refine congrArg bV (Eq.symm (Bool.eq_false_iff.2 fun h=>?_))
       simp only[b7,cR,p,cu,Int.reduceEq,or_self,if_false,or_true,true_or,or_false,false_or,if_true,reduceIte,W7,decide_eq_true_eq,WY,W0,Xq,Xj,reduceCtorEq,W2,false_and,and_false,true_and,and_true]at h
       try omega
       done)
     |(refine congrArg bV (Eq.symm ?_)
       simp only[b7,cR,p,cu,Int.reduceEq,or_self,if_false,or_true,true_or,or_false,false_or,if_true,reduceIte,W7,decide_eq_true_eq,WY,W0,Xq,Xj,reduceCtorEq,W2,false_and,and_false,true_and,and_true]
       try omega
       done)
def Re.whole (re:Re) (ak top:Int):Bool:=re.every fun r=>b7 r ak top
theorem Cr (ak top:Int) (ht:top≤1114111) (re:Re) (hf:re.fA=true):br prog 78 [lk re,i64 ak,i64 top] (bV (re.whole ak top)):=by
 revert hf
 refine Re.ind (Q:=fun re=>re.fA=true→br prog 78 [lk re,i64 ak,i64 top] (bV (re.whole ak top))) (fun re ih hf=>?_) re
 obtain⟨pf,hlen,J4⟩:=Re.gR hf
 have GQ:=AQ re hf ak top ht
 rw[ay]at GQ
 simp only[i64,iD,bD]at GQ
 refine aw func78 rfl ntmps78 results78 rfl 0 207 (by simp) (by simp) ?_
 simp only[zX,simprocAttr,i64,ay re,iD,bD]
 refine aD GQ (by simp [ao,ao.go,ay,i64,bV,bT]) (by simp [ao,ao.go,ay,i64,bV,bT]) ?_
 cases jk:b7 re ak top with
 |false =>
  simp only[zX,simprocAttr,i64,bV]
  rw[show re.whole ak top=false by
   rw[Xz];intro h;unfold Re.whole at h;rw[Re.ck,jk]at h;exact absurd h.1 (by decide)]
 |true =>
  simp only[zX,simprocAttr,i64,bV]
  refine aX (fun n e s=>∃i:Nat,n=re.kids.length-i∧i≤re.kids.length∧e 1=i64 ak∧e 2=i64 top∧e 3=.rf 0 0 0 0∧e 7=i64 i∧(∀x∈re.kids.take i,x.whole ak top=true)∧s=[⟨0,true,8,[re.cells.map .d]⟩])
   ⟨_,_,_,dw.refl,0,rfl,by omega,rfl,rfl,rfl,rfl,by simp,by simp [Re.ae re,iD,bD]⟩ ?_
  rintro n e s ⟨i,rfl,hi,h1,h2,h3,h7,hn,rfl⟩
  rcases Xw i re.kids.length with aS|lW
  ·obtain⟨k,hk⟩:∃k,re.kids[i]?=some k:=⟨_,WZ aS⟩
   have hm:=W6 hk
   simp only[zX,simprocAttr,i64,Re.ae re,iD,bD,h1,h2,h3,h7,aS,hk]
   refine aD (ih k hm (J4 k hm)) (by simp [ao,ao.go,ay,i64,bV,bT]) (by simp [ao,ao.go,ay,i64,bV,bT]) ?_
   cases uY:k.whole ak top with
   |false =>
    simp only[zX,simprocAttr,i64,bV]
    rw[show re.whole ak top=false by
     rw[Xz];intro h;unfold Re.whole at h;rw[Re.ck]at h;have:=h.2 k hm;unfold Re.whole at uY;rw[uY]at this;cases this]
   |true =>
    simp only[zX,simprocAttr,i64,bV,Re.ae re,iD,bD,h1,h2,h3,h7]
    refine⟨re.kids.length-(i+1),_,_,by omega,dw.refl,i+1,rfl,aS,?_,?_,?_,?_,?_,rfl⟩ <;> (try simp only[zU,Nat.reduceBEq,Nat.reduceShiftRight,Nat.reduceMod,Nat.reduceEqDiff,reduceIte])
    ·exact h1
    ·exact h2
    ·exact h3
    ·rw[bU _ (by omega)];rfl
    ·intro x hx
     rcases nh hk hx with h|rfl
     ·exact hn x h
     ·exact uY
  ·have iQ:i=re.kids.length:=by omega
   subst iQ
   simp only[zX,simprocAttr,i64,Re.ae re,iD,bD,h1,h2,h3,h7,XP]
   rw[show re.whole ak top=true from (Re.ck re).2 ⟨jk,fun k hk=>hn k (by rw[XA];exact hk)⟩]
def eG (bk:Bool):Int:=if bk=true then 1114111 else 255
def df (p:fj):Int :=
 if 256<p.re.size∨24<p.re.depth then 4 else if p.ak<0∨9<p.ak∨p.re.whole p.ak (eG p.bk)=false then 1 else 0
theorem Cw (p:fj) (hf:p.re.fA=true) (hs:p.re.size≤1000000000):br prog 49 [cN p] (i64 (df p)):=by
 have h1:=FM p.re hs
 have h2:=D0 p.re hs
 have h3:=Cr p.ak (eG p.bk) (by unfold eG;split <;> omega) p.re hf
 unfold df
 rw[ay]at h1 h2 h3
 cases p with
 |mk re ak bk =>
 simp only[i64,iD,bD]at h1 h2 h3
 simp only at *
 refine aw func49 rfl ntmps49 results49 rfl 0 15 (by simp) (by simp) ?_
 simp only[zX,simprocAttr,i64,cN,Re.ae re,bV,iD,bD]
 refine aD h1 (by simp [ao,ao.go,ay,i64,bV,bT]) (by simp [ao,ao.go,ay,i64,bV,bT]) ?_
 simp only[zX,simprocAttr,i64,cN,bV,iD,bD]
 by_cases c1:(256:Int)<re.size
 ·simp only[zX,simprocAttr,c1]
  rw[if_pos (by omega)]
 simp only[zX,simprocAttr,i64,cN,bV,iD,bD,c1]
 refine aD h2 (by simp [ao,ao.go,ay,i64,bV,bT]) (by simp [ao,ao.go,ay,i64,bV,bT]) ?_
 simp only[zX,simprocAttr,i64,cN,bV,iD,bD]
 by_cases c2:(24:Int)<re.depth
 ·simp only[zX,simprocAttr,c2]
 rw[if_neg (by omega)]
 simp only[zX,simprocAttr,i64,cN,bV,iD,bD,c2]
 cases bk
 all_goals
  simp only[eG,if_true,if_false,reduceIte,reduceCtorEq,W2]at h3 ⊢
  simp only[zX,simprocAttr,i64,cN,bV,iD,bD]
  by_cases c3:ak<0
  ·simp only[zX,simprocAttr,i64,cN,bV,iD,bD,c3]
  by_cases c4:9<ak
  ·simp only[zX,simprocAttr,i64,cN,bV,iD,bD,c3,c4,if_true,or_true,true_or]
  simp only[zX,simprocAttr,i64,cN,bV,iD,bD,c3,c4]
  refine aD h3 (by simp [ao,ao.go,ay,i64,bV,bT]) (by simp [ao,ao.go,ay,i64,bV,bT]) ?_
  first
   |(cases hw:re.whole ak 1114111 <;> (simp only[zX,simprocAttr,i64,bV]);done)
   |(cases hw:re.whole ak 255 <;> (simp only[zX,simprocAttr,i64,bV]);done)
end Go.Proofs.YtmihcpdhcillaaaGreat
