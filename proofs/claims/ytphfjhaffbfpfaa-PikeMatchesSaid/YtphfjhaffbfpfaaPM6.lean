/- A part of the proof (F17 F18 F19 F20 F21 F34 F35 F36 F14 F23 F24 F25 F37 F38 F39). -/
import Derived.Test.YtphfjhaffbfpfaaPM2
import Derived.Test.YtphfjhaffbfpfaaPM3
import Derived.Test.YtphfjhaffbfpfaaPM5
set_option linter.all false
set_option maxRecDepth 100000
set_option maxHeartbeats 80000000
namespace Go.Proofs.Ytphfjhaffbfpfaa
open Go.VL Go.Proofs.Try
end Go.Proofs.Ytphfjhaffbfpfaa
namespace Go.Proofs.Ytphfjhaffbfpfaa
open Go.VL Go.Proofs.Try
end Go.Proofs.Ytphfjhaffbfpfaa
namespace Go.Proofs.Ytphfjhaffbfpfaa
open Go.VL Go.Proofs.Try
mutual
def Re.every (p:Re->Bool):Re->Bool
 |.mk op set kids mn mx mode n neg=>p (.mk op set kids mn mx mode n neg)&&Re.C5 p kids
def Re.C5 (p:Re->Bool):List Re->Bool
 |[]=>true
 |k::l=>Re.every p k&&Re.C5 p l
end
theorem Re.AQ (p:Re->Bool):∀l:List Re,Re.C5 p l=l.all (Re.every p)
 |[]=>rfl
 |k::l=>by simp [Re.C5,Re.AQ p l]
theorem Re.aQ {p:Re->Bool} (re:Re):re.every p=true ↔ p re=true/\∀k∈re.kids,k.every p=true:=by
 cases re with
 |mk op set kids mn mx mode n neg=>simp only[Re.every,adD,Re.AQ,adE,Re.kids]
def cR (op:Int):Int×Int :=
 if op=2\/op=3 then (2,-1) else if op=4\/op=5\/op=7\/op=8\/op=9 then (1,1) else if op=10 then (2,2) else (0,0)
theorem I7 (op:Int):ba prog 99 [i64 op] (.tu [i64 (cR op).1,i64 (cR op).2]):=by
 have tC:op=2\/op=3\/op=4\/op=5\/op=7\/op=8\/op=9\/op=10\/(¬op=2/\¬op=3/\¬op=4/\¬op=5/\¬op=7/\¬op=8/\¬op=9/\¬op=10):=by omega
 rcases tC with p|p|p|p|p|p|p|p|⟨p1,p2,p3,p4,p5,p6,p7,p8⟩
 all_goals
  first
   |(rw[p]
     refine ar func99 rfl ntmps99 results99 rfl 0 317 (by simp) (by simp) ?_;simp only[zW,simprocAttr,i64];all_goals first|exact⟨rfl,rfl⟩|exact⟨rfl,trivial⟩|rfl|trivial|(rw[aq];rfl))
   |(rw[show cR op=(0,0) by simp [cR,p1,p2,p3,p4,p5,p6,p7,p8]]
     refine ar func99 rfl ntmps99 results99 rfl 0 317 (by simp) (by simp) ?_;simp only[zW,simprocAttr,i64,p1,p2,p3,p4,p5,p6,p7,p8];all_goals first|exact⟨rfl,rfl⟩|exact⟨rfl,trivial⟩|rfl|trivial|(rw[aq];rfl))
def iV (top:Int):Int->List (Int×Int)->Bool
 |_,[]=>true
 |p,s::l=>decide (0<=s.1/\s.1<=s.2/\s.2<=top/\p+1<s.1)&&iV top s.2 l
def gK (l:List (Int×Int)) (top:Int):Bool:=decide (l.length<=64)&&iV top (-2) l
def fx (l:List (Int×Int)):Nat->Int
 |0=>-2
 |i+1=>(l[i]?.map (·.2)).getD 0
theorem Eh (l:List (Int×Int)) (hl:l.length<=1000000000) (top:Int) (ht:top<=1114111):ba prog 100 [.d (.sl (l.map aN)),i64 top] (bV (gK l top)):=by
 refine ar func100 rfl ntmps100 results100 rfl 0 51 (by simp) (by simp) ?_;by_cases V0:(64:Int)<l.length
 ·simp only[zX,simprocAttr,i64,V0];have:¬l.length<=64:=by omega
  simp [gK,bV,this]
 have Ta:l.length<=64:=by omega
 have hR:gK l top=iV top (-2) l:=by simp [gK,Ta]
 rw[hR];simp only[zX,simprocAttr,i64,V0];refine aJ (λn e s=>∃i:Nat,n=l.length-i/\i<=l.length/\e 0=.d (.sl (l.map aN))/\e 1=i64 top/\e 5=i64 i/\s=[]/\iV top (-2) l=iV top (fx l i) (l.drop i)/\(0<i->0<=fx l i/\fx l i<=top))
  ⟨_,_,_,cU.refl,0,rfl,by omega,rfl,rfl,rfl,rfl,rfl,λh=>absurd h (by omega)⟩ ?_
 rintro n e s ⟨i,rfl,hi,h0,h1,h5,rfl,du,LV⟩;rcases adV i l.length with aH|iP
 ·obtain⟨k,hk⟩:∃k,l[i]?=some k:=⟨_,adn aH⟩
  have hd:l.drop i=k::l.drop (i+1):=by rw[List.drop_eq_getElem_cons aH];rw[adn aH]at hk;simp only[adp]at hk;rw[hk]
  rw[hd]at du;simp only[iV]at du;have wD:fx l (i+1)=k.2:=by simp [fx,hk]
  simp only[zX,simprocAttr,i64,h0,h1,h5,aH];refine ao mix [] [] (by rfl) ?_;cases i with
  |zero =>
   have du:iV top (-2) l=(decide (0<=k.1/\k.1<=k.2/\k.2<=top/\-2+1<k.1)&&iV top k.2 (l.drop (0+1))):=du;simp only[zX,simprocAttr,i64,h0,h1,h5,hk,aN,iD,adK]
   repeat' (first
 |(with_reducible refine And.intro (by first|omega|exact⟨by omega,by omega⟩|(simp;done)) ?_)
 |(with_reducible first|refine jh (λhc=>?_) (λhc=>?_)|refine dG (λhc=>?_) (λhc=>?_)|refine dN (λhc=>?_) (λhc=>?_)|refine dd (λhc=>?_) (λhc=>?_)|refine de (λhc=>?_) (λhc=>?_)|refine gv (λhc=>?_) (λhc=>?_)|refine dM (λhc=>?_) (λhc=>?_))<;>simp only[zX,simprocAttr,i64,h0,h1,h5,hk,aN,iD,adK,hc])
   any_goals (refine congrArg bV (Eq.symm ?_);rw[du,show decide (0<=k.1/\k.1<=k.2/\k.2<=top/\-2+1<k.1)=false from adl (by omega)];rfl)
   refine⟨l.length-1,_,_,by omega,cU.refl,1,rfl,aH,?_,?_,?_,rfl,?_,?_⟩ <;> (try simp only[zU,Nat.reduceBEq,Nat.reduceShiftRight,Nat.reduceMod,Nat.reduceEqDiff,reduceIte])
   ·exact h0
   ·exact h1
   ·rw[bM _ (by omega)];rfl
   ·rw[du,wD,show decide (0<=k.1/\k.1<=k.2/\k.2<=top/\-2+1<k.1)=true from adu (by omega)];rfl
   ·intro _;rw[wD];omega
  |succ j =>
   obtain⟨kp,tV⟩:∃k,l[j]?=some k:=⟨_,adn (by omega:j<l.length)⟩
   have VI:fx l (j+1)=kp.2:=by simp [fx,tV]
   have LV:=LV (by omega);rw[VI]at LV du;have w1:IntKind.i64.wrap (((j+1:Nat):Int)-1)=(j:Int):=by rw[bM _ (by omega)];omega
   have w2:IntKind.i64.wrap (kp.2+1)=kp.2+1:=bM _ (by omega);have p0:(0:Int)<((j+1:Nat):Int):=by omega
   have q0:(0:Int)<=((j+1:Nat):Int):=by omega
   have q1:((j+1:Nat):Int)<l.length:=by omega
   have q2:(j:Int)<l.length:=by omega
   simp only[zX,simprocAttr,i64,h0,h1,h5,hk,aN,iD,tV,w1,w2,p0,q0,q1,q2]
   repeat' (first
 |(with_reducible refine And.intro (by first|omega|exact⟨by omega,by omega⟩|(simp;done)) ?_)
 |(with_reducible first|refine jh (λhc=>?_) (λhc=>?_)|refine dG (λhc=>?_) (λhc=>?_)|refine dN (λhc=>?_) (λhc=>?_)|refine dd (λhc=>?_) (λhc=>?_)|refine de (λhc=>?_) (λhc=>?_)|refine gv (λhc=>?_) (λhc=>?_)|refine dM (λhc=>?_) (λhc=>?_))<;>simp only[zX,simprocAttr,i64,h0,h1,h5,hk,aN,iD,tV,w1,w2,p0,q0,q1,q2,hc])
   any_goals (refine congrArg bV (Eq.symm ?_);rw[du,show decide (0<=k.1/\k.1<=k.2/\k.2<=top/\kp.2+1<k.1)=false from adl (by omega)];rfl)
   refine⟨l.length-(j+1+1),_,_,by omega,cU.refl,j+1+1,rfl,aH,?_,?_,?_,rfl,?_,?_⟩ <;> (try simp only[zU,Nat.reduceBEq,Nat.reduceShiftRight,Nat.reduceMod,Nat.reduceEqDiff,reduceIte])
   ·exact h0
   ·exact h1
   ·rw[bM _ (by omega)];rfl
   ·rw[du,wD,show decide (0<=k.1/\k.1<=k.2/\k.2<=top/\kp.2+1<k.1)=true from adu (by omega)];rfl
   ·intro _;rw[wD];omega
 ·have fy:i=l.length:=by omega
  subst fy;simp only[zX,simprocAttr,i64,h0,h1,h5,Nat.lt_irrefl];rw[du];simp [iV,bV]
def b9 (re:Re) (ah top:Int):Bool :=
 decide (0<=re.op/\re.op<=11/\(cR re.op).1<=re.kids.length/\((cR re.op).2<0\/(re.kids.length:Int)<=(cR re.op).2)) &&
 ((if re.op=1 then gK re.set top else decide (re.set.length=0)) &&
 ((if re.op=4 then decide (0<=re.mn/\re.mn<=32/\-1<=re.mx/\re.mx≠0/\re.mx<=32/\(0<re.mx->re.mn<=re.mx)/\0<=re.mode/\re.mode<=2) else decide (re.mn=0/\re.mx=0/\re.mode=0)) &&
 ((if re.op=5\/re.op=6\/re.op=10 then decide (1<=re.n/\re.n<=ah) else if re.op=11 then decide (0<=re.n/\re.n<=5) else decide (re.n=0)) &&
 (!re.neg||decide (re.op=7\/re.op=8)))))
theorem Db (re:Re) (hf:re.eN=true) (ah top:Int) (ht:top<=1114111):ba prog 97 [lQ re,i64 ah,i64 top] (bV (b9 re ah top)):=by
 obtain⟨nV,hlen,A4⟩:=Re.fC hf;have du:=Eh re.set nV top ht;have PW:=I7 re.op;by_cases ho:re.op<0\/11<re.op
 ·rw[show b9 re ah top=false by simp only[b9];rw[adl (by omega)];rfl];have Vw:re.op<0\/(¬re.op<0/\11<re.op):=by omega
  refine ar func97 rfl ntmps97 results97 rfl 0 361550014853497117429835520396253725135 (by simp) (by simp) ?_;simp only[zX,simprocAttr,i64,aq re,iD,bD];refine az PW (by simp [ak,ak.go,aq,i64,bV,bP]) (by simp [ak,ak.go,aq,i64,bV,bP]) ?_;rcases Vw with h1|⟨h1,h2⟩
  ·simp only[zX,simprocAttr,i64,aq re,iD,bD,h1];rfl
  ·simp only[zX,simprocAttr,i64,aq re,iD,bD,h1,h2];rfl
 ·have hc:re.op=0\/re.op=1\/re.op=2\/re.op=3\/re.op=4\/re.op=5\/re.op=6\/re.op=7\/re.op=8\/re.op=9\/re.op=10\/re.op=11:=by omega
  clear ho;rcases hc with p|p|p|p|p|p|p|p|p|p|p|p
  case inr.inl =>
   rw[p]at PW;simp only[cR,Int.reduceEq,or_self,if_false,or_true,true_or,or_false,false_or,if_true,reduceIte]at PW;generalize hv:gK re.set top=sv at du;cases sv;all_goals
    refine ar func97 rfl ntmps97 results97 rfl 0 361550014853497117429835520396253725135 (by simp) (by simp) ?_;simp only[zX,simprocAttr,i64,aq re,iD,bD,p];refine az PW (by simp [ak,ak.go,aq,i64,bV,bP]) (by simp [ak,ak.go,aq,i64,bV,bP]) ?_;simp only[zX,simprocAttr,i64,aq re,iD,bD,p]
    repeat' (first
 |(with_reducible refine And.intro (by first|omega|exact⟨by omega,by omega⟩|(simp;done)) ?_)
 |(with_reducible first|refine jh (λhc=>?_) (λhc=>?_)|refine dG (λhc=>?_) (λhc=>?_)|refine dN (λhc=>?_) (λhc=>?_)|refine dd (λhc=>?_) (λhc=>?_)|refine de (λhc=>?_) (λhc=>?_)|refine gv (λhc=>?_) (λhc=>?_)|refine dM (λhc=>?_) (λhc=>?_))<;>simp only[zX,simprocAttr,i64,aq re,iD,bD,p,hc])
   any_goals
    refine az du (by simp [ak,ak.go,aq,i64,bV,bP]) (by simp [ak,ak.go,aq,i64,bV,bP]) ?_;simp only[zX,simprocAttr,i64,aq re,iD,bD,p,bV]
   any_goals
    repeat' (first
 |(with_reducible refine And.intro (by first|omega|exact⟨by omega,by omega⟩|(simp;done)) ?_)
 |(with_reducible first|refine jh (λhc=>?_) (λhc=>?_)|refine dG (λhc=>?_) (λhc=>?_)|refine dN (λhc=>?_) (λhc=>?_)|refine dd (λhc=>?_) (λhc=>?_)|refine de (λhc=>?_) (λhc=>?_)|refine gv (λhc=>?_) (λhc=>?_)|refine dM (λhc=>?_) (λhc=>?_))<;>simp only[zX,simprocAttr,i64,aq re,iD,bD,p,bV,hc])
   all_goals
    rcases Bool.eq_false_or_eq_true re.neg with cS|cS;all_goals
     try (exfalso;rw[cS]at hc;exact absurd hc (by decide);done)
     try first
      |(first|refine congrArg bV (Eq.symm (Bool.eq_false_iff.2 λh=>?_))|refine Eq.symm (Bool.eq_false_iff.2 λh=>?_)
        simp only[b9,cR,p,cS,hv,Int.reduceEq,or_self,if_false,or_true,true_or,or_false,false_or,if_true,reduceIte,adD,adC,ads,adz,ad4,adY,reduceCtorEq,adq,false_and,and_false,true_and,and_true]at h;try omega
        done)
      |(first|refine congrArg bV (Eq.symm ?_)|refine Eq.symm ?_
        simp only[b9,cR,p,cS,hv,Int.reduceEq,or_self,if_false,or_true,true_or,or_false,false_or,if_true,reduceIte,adD,adC,ads,adz,ad4,adY,reduceCtorEq,adq,false_and,and_false,true_and,and_true];try omega
        done)
  all_goals
   rw[p]at PW;simp only[cR,Int.reduceEq,or_self,if_false,or_true,true_or,or_false,false_or,if_true,reduceIte]at PW;refine ar func97 rfl ntmps97 results97 rfl 0 361550014853497117429835520396253725135 (by simp) (by simp) ?_;simp only[zX,simprocAttr,i64,aq re,iD,bD,p];refine az PW (by simp [ak,ak.go,aq,i64,bV,bP]) (by simp [ak,ak.go,aq,i64,bV,bP]) ?_;simp only[zX,simprocAttr,i64,aq re,iD,bD,p]
   repeat' (first
 |(with_reducible refine And.intro (by first|omega|exact⟨by omega,by omega⟩|(simp;done)) ?_)
 |(with_reducible first|refine jh (λhc=>?_) (λhc=>?_)|refine dG (λhc=>?_) (λhc=>?_)|refine dN (λhc=>?_) (λhc=>?_)|refine dd (λhc=>?_) (λhc=>?_)|refine de (λhc=>?_) (λhc=>?_)|refine gv (λhc=>?_) (λhc=>?_)|refine dM (λhc=>?_) (λhc=>?_))<;>simp only[zX,simprocAttr,i64,aq re,iD,bD,p,hc])
  all_goals
   rcases Bool.eq_false_or_eq_true re.neg with cS|cS;all_goals
    try (exfalso;rw[cS]at hc;exact absurd hc (by decide);done)
    try first
     |(refine congrArg bV (Eq.symm (Bool.eq_false_iff.2 λh=>?_))
       simp only[b9,cR,p,cS,Int.reduceEq,or_self,if_false,or_true,true_or,or_false,false_or,if_true,reduceIte,adD,adC,ads,adz,ad4,adY,reduceCtorEq,adq,false_and,and_false,true_and,and_true]at h;try omega
       done)
     |(refine congrArg bV (Eq.symm ?_)
       simp only[b9,cR,p,cS,Int.reduceEq,or_self,if_false,or_true,true_or,or_false,false_or,if_true,reduceIte,adD,adC,ads,adz,ad4,adY,reduceCtorEq,adq,false_and,and_false,true_and,and_true];try omega
       done)
def Re.whole (re:Re) (ah top:Int):Bool:=re.every λr=>b9 r ah top
theorem He (ah top:Int) (ht:top<=1114111) (re:Re) (hf:re.eN=true):ba prog 87 [lQ re,i64 ah,i64 top] (bV (re.whole ah top)):=by
 revert hf;refine Re.ind (Q:=λre=>re.eN=true->ba prog 87 [lQ re,i64 ah,i64 top] (bV (re.whole ah top))) (λre ih hf=>?_) re;obtain⟨nV,hlen,A4⟩:=Re.fC hf;have KM:=Db re hf ah top ht;rw[aq]at KM;simp only[i64,iD,bD]at KM;refine ar func87 rfl ntmps87 results87 rfl 0 207 (by simp) (by simp) ?_;simp only[zX,simprocAttr,i64,aq re,iD,bD];refine az KM (by simp [ak,ak.go,aq,i64,bV,bP]) (by simp [ak,ak.go,aq,i64,bV,bP]) ?_;cases ov:b9 re ah top with
 |false =>
  simp only[zX,simprocAttr,i64,bV];rw[show re.whole ah top=false by
   rw[aee];intro h;unfold Re.whole at h;rw[Re.aQ,ov]at h;exact absurd h.1 (by decide)]
 |true =>
  simp only[zX,simprocAttr,i64,bV];refine aJ (λn e s=>∃i:Nat,n=re.kids.length-i/\i<=re.kids.length/\e 1=i64 ah/\e 2=i64 top/\e 3=.rf 0 0 0 0/\e 7=i64 i/\(∀x∈re.kids.take i,x.whole ah top=true)/\s=[⟨0,true,8,[re.cells.map .d]⟩])
   ⟨_,_,_,cU.refl,0,rfl,by omega,rfl,rfl,rfl,rfl,by simp,by simp [Re.ae re,iD,bD]⟩ ?_
  rintro n e s ⟨i,rfl,hi,h1,h2,h3,h7,hn,rfl⟩;rcases adV i re.kids.length with aH|iP
  ·obtain⟨k,hk⟩:∃k,re.kids[i]?=some k:=⟨_,adn aH⟩
   have hm:=adw hk;simp only[zX,simprocAttr,i64,Re.ae re,iD,bD,h1,h2,h3,h7,aH,hk];refine az (ih k hm (A4 k hm)) (by simp [ak,ak.go,aq,i64,bV,bP]) (by simp [ak,ak.go,aq,i64,bV,bP]) ?_;cases jl:k.whole ah top with
   |false =>
    simp only[zX,simprocAttr,i64,bV];rw[show re.whole ah top=false by
     rw[aee];intro h;unfold Re.whole at h;rw[Re.aQ]at h;have:=h.2 k hm;unfold Re.whole at jl;rw[jl]at this;cases this]
   |true =>
    simp only[zX,simprocAttr,i64,bV,Re.ae re,iD,bD,h1,h2,h3,h7];refine⟨re.kids.length-(i+1),_,_,by omega,cU.refl,i+1,rfl,aH,?_,?_,?_,?_,?_,rfl⟩ <;> (try simp only[zU,Nat.reduceBEq,Nat.reduceShiftRight,Nat.reduceMod,Nat.reduceEqDiff,reduceIte])
    ·exact h1
    ·exact h2
    ·exact h3
    ·rw[bM _ (by omega)];rfl
    ·intro x hx;rcases eF hk hx with h|rfl
     ·exact hn x h
     ·exact jl
  ·have fy:i=re.kids.length:=by omega
   subst fy;simp only[zX,simprocAttr,i64,Re.ae re,iD,bD,h1,h2,h3,h7,Nat.lt_irrefl];rw[show re.whole ah top=true from (Re.aQ re).2 ⟨ov,λk hk=>hn k (by rw[adZ];exact hk)⟩]
def fi (aK:Bool):Int:=if aK=true then 1114111 else 255
def dR (p:iF):Int :=
 if 256<p.re.size\/24<p.re.depth then 4 else if p.ah<0\/9<p.ah\/p.re.whole p.ah (fi p.aK)=false then 1 else 0
theorem G3 (p:iF) (hf:p.re.eN=true) (hs:p.re.size<=1000000000):ba prog 72 [dF p] (i64 (dR p)):=by
 have h1:=I4 p.re hs;have h2:=E3 p.re hs;have h3:=He p.ah (fi p.aK) (by unfold fi;split <;> omega) p.re hf;unfold dR;rw[aq]at h1 h2 h3;cases p with
 |mk re ah aK =>
 simp only[i64,iD,bD]at h1 h2 h3;simp only at *;refine ar func72 rfl ntmps72 results72 rfl 0 15 (by simp) (by simp) ?_;simp only[zX,simprocAttr,i64,dF,Re.ae re,bV,iD,bD];refine az h1 (by simp [ak,ak.go,aq,i64,bV,bP]) (by simp [ak,ak.go,aq,i64,bV,bP]) ?_;simp only[zX,simprocAttr,i64,dF,bV,iD,bD];by_cases c1:(256:Int)<re.size
 ·simp only[zX,simprocAttr,c1];rw[ap (by omega)]
 simp only[zX,simprocAttr,i64,dF,bV,iD,bD,c1];refine az h2 (by simp [ak,ak.go,aq,i64,bV,bP]) (by simp [ak,ak.go,aq,i64,bV,bP]) ?_;simp only[zX,simprocAttr,i64,dF,bV,iD,bD];by_cases c2:(24:Int)<re.depth
 ·simp only[zX,simprocAttr,c2]
 rw[am (by omega)];simp only[zX,simprocAttr,i64,dF,bV,iD,bD,c2];cases aK;all_goals
  simp only[fi,if_true,if_false,reduceIte,reduceCtorEq,adq]at h3 ⊢;simp only[zX,simprocAttr,i64,dF,bV,iD,bD];by_cases c3:ah<0
  ·simp only[zX,simprocAttr,i64,dF,bV,iD,bD,c3]
  by_cases c4:9<ah
  ·simp only[zX,simprocAttr,i64,dF,bV,iD,bD,c3,c4,if_true,or_true,true_or]
  simp only[zX,simprocAttr,i64,dF,bV,iD,bD,c3,c4];refine az h3 (by simp [ak,ak.go,aq,i64,bV,bP]) (by simp [ak,ak.go,aq,i64,bV,bP]) ?_;first
   |(cases hw:re.whole ah 1114111 <;> (simp only[zX,simprocAttr,i64,bV]);done)
   |(cases hw:re.whole ah 255 <;> (simp only[zX,simprocAttr,i64,bV]);done)
end Go.Proofs.Ytphfjhaffbfpfaa
namespace Go.Proofs.Ytphfjhaffbfpfaa
open Go.VL Go.Proofs.Try
def qw (x:Re):VL.Obj:=⟨0,true,8,[x.cells.map .d]⟩
end Go.Proofs.Ytphfjhaffbfpfaa
namespace Go.Proofs.Ytphfjhaffbfpfaa
open Go.VL Go.Proofs.Try
variable{b:Int}{k:Int×Int}{na:Bool}{a:Int×Int}{nk:Bool}
structure LR (pg:Bool) (p:Int×Int):Prop where
 a0:0<=p.1
 a1:p.1<=1000000
 b0:-1<=p.2
 b1:p.2<=1000000
 ab:p.2=-1\/p.1<=p.2
 nl:pg=true ↔ p.1=0
theorem Eu {a:Int} (h1:-1<=a/\a<=1000000) (h2:-1<=b/\b<=1000000):uL a b=if a<0\/b<0 then -1 else min (a+b) 1000000:=by unfold uL;rw[bM _ (by omega)]
theorem OV (ha:LR na a) (hk:LR nk k):LR (na&&nk) (uL a.1 k.1,uL a.2 k.2):=by
 obtain⟨a0,a1,b0,b1,ab,nl⟩:=ha;obtain⟨c0,c1,d0,d1,cd,YM⟩:=hk;have e1:uL a.1 k.1=min (a.1+k.1) 1000000:=by rw[Eu ⟨by omega,a1⟩ ⟨by omega,c1⟩,am (by omega)]
 have e2:=Eu ⟨b0,b1⟩ ⟨d0,d1⟩;refine⟨?_,?_,?_,?_,?_,?_⟩ <;> simp only[e1,e2]
 ·omega
 ·omega
 ·split <;> omega
 ·split <;> omega
 ·split <;> omega
 ·rw[adD,nl,YM];omega
theorem BW:∀(l:List (Bool×(Int×Int))) (na:Bool) (a:Int×Int),LR na a->(∀x∈l,LR x.1 x.2) ->
  LR (na&&(l.map (·.1)).all id) ((l.map (·.2)).foldl (λa k=>(uL a.1 k.1,uL a.2 k.2)) a)
 |[],na,a,h,_=>by simpa using h
 |x::l,na,a,h,hl=>by have:=BW l (na&&x.1) _ (OV h (hl x (by simp))) (λy hy=>hl y (by simp [hy]));simpa [Bool.and_assoc]using this
theorem NB (ha:LR na a) (hk:LR nk k):LR (na||nk) (x5 a k):=by
 obtain⟨a0,a1,b0,b1,ab,nl⟩:=ha;obtain⟨c0,c1,d0,d1,cd,YM⟩:=hk;refine⟨?_,?_,?_,?_,?_,?_⟩ <;> simp only[x5,zL]
 ·omega
 ·omega
 ·split <;> omega
 ·split <;> omega
 ·split <;> omega
 ·rw[Bool.or_eq_true,nl,YM];omega
theorem BO:∀(l:List (Bool×(Int×Int))) (na:Bool) (a:Int×Int),LR na a->(∀x∈l,LR x.1 x.2) ->
  LR (na||(l.map (·.1)).any id) ((l.map (·.2)).foldl x5 a)
 |[],na,a,h,_=>by simpa using h
 |x::l,na,a,h,hl=>by have:=BO l (na||x.1) _ (NB h (hl x (by simp))) (λy hy=>hl y (by simp [hy]));simpa [Bool.or_assoc]using this
theorem LB {n:Bool} (h:LR n k):x5 k k=k:=by
 obtain⟨a0,a1,b0,b1,ab,nl⟩:=h;refine Prod.ext ?_ ?_ <;> simp only[x5,zL]
 ·omega
 ·split <;> omega
theorem Sv {n:Int} (h0:0<=b) (h1:b<=1000000) (n0:0<=n) (n1:n<=1000000):jC b n=min (b*n) 1000000:=by
 have hle:b*n<=1000000*1000000:=Int.mul_le_mul h1 n1 n0 (by omega);have iP:0<=b*n:=Int.mul_nonneg h0 n0;unfold jC;split
 ·rename_i h;rcases h with h|h <;> subst h <;> simp <;> omega
 ·rw[am (by omega),bM _ (by omega)]
theorem SQ {n:Int} (n0:0<n):jC (-1) n=-1:=by unfold jC;rw[am (by omega),ap (by omega)]
theorem TN (h:¬b=0):jC b (-1)=-1:=by unfold jC;rw[am (by omega),ap (by omega)]
theorem GI (n:Int):jC 0 n=0:=by simp [jC]
def Uq (re:Re):Bool:=decide (re.set.length<=10/\re.kids.length<=4/\0<=re.op/\re.op<=11/\(re.op=4->re.kids.length=1/\0<=re.mn/\re.mn<=2/\(re.mx=-1\/(1<=re.mx/\re.mx<=3/\re.mn<=re.mx))) /\
 (re.op=3\/re.op=10\/re.op=5\/re.op=9->re.kids≠[]))
end Go.Proofs.Ytphfjhaffbfpfaa
namespace Go.Proofs.Ytphfjhaffbfpfaa
open Go.VL Go.Proofs.Try
instance (n:Int):Decidable (kg n):=by unfold kg;infer_instance
def tX (c:Nat) (r:Re):Bool:=decide (r.set.length<=c/\r.kids.length<=c/\kg r.op/\kg r.mn/\kg r.mx/\kg r.mode/\kg r.n)&&r.set.all λs=>decide (kg s.1/\kg s.2)
structure iF.small (p:iF) (c:Nat):Prop where
 ev:p.re.every (tX c)=true
 sz:p.re.size<=c
 ah:kg p.ah
theorem AI {c:Nat}{r:Re}:tX c r=true ↔ (r.set.length<=c/\r.kids.length<=c/\kg r.op/\kg r.mn/\kg r.mx/\kg r.mode/\kg r.n)/\∀s∈r.set,kg s.1/\kg s.2:=by unfold tX;rw[adD,adC,adE];exact and_congr Iff.rfl ⟨λh s hs=>of_decide_eq_true (h s hs),λh s hs=>adu (h s hs)⟩
theorem nA {p q:Re->Bool} (h:∀re,p re=true->q re=true) (re:Re) (hp:re.every p=true):re.every q=true:=by revert hp;refine Re.ind (Q:=λre=>re.every p=true->re.every q=true) (λre ih hp=>?_) re;obtain⟨h1,h2⟩:=(Re.aQ re).1 hp;exact(Re.aQ re).2 ⟨h re h1,λk hk=>ih k hk (h2 k hk)⟩
theorem Ao {c:Nat} (hc:c<=1000000000) (re:Re) (h:re.every (tX c)=true):re.eN=true:=by revert h;refine Re.ind (Q:=λre=>re.every (tX c)=true->re.eN=true) (λre ih h=>?_) re;obtain⟨h1,h2⟩:=(Re.aQ re).1 h;obtain⟨⟨a1,a2,_⟩,_⟩:=AI.1 h1;exact(Re.Aw re).2 ⟨by omega,by omega,λk hk=>ih k hk (h2 k hk)⟩
end Go.Proofs.Ytphfjhaffbfpfaa
