/- A part of the proof (F12 F30 F22 F31 F34 F35 F36 F14 F23 F24). -/
import Derived.Test.YtfmdmlfhigocaaaOR13
import Derived.Test.YtfmdmlfhigocaaaOR16
import Derived.Test.YtfmdmlfhigocaaaOR20
import Derived.Test.YtfmdmlfhigocaaaOR22
set_option linter.unusedSimpArgs false
set_option linter.unusedVariables false
open Nat renaming reduceShiftRight → cy, reduceMod → cJ, reduceEqDiff → dV, reduceBEq → gV
open Int renaming reduceEq → jT
set_option maxRecDepth 100000
set_option maxHeartbeats 80000000
namespace Go.Proofs.Ytfmdmlfhigocaaa
open Go.VL Go.Proofs.Try
structure eJ where
 re:Re
 ai:Int
 aF:Bool
def aE (p:eJ):V:=.ag (p.re.cells.map .d++[i64 p.ai,bV p.aF])
def mO (l:List Int) (dC most:Int):eJ :=
 let x:=Mk.tree 5 ⟨l,0,dC,most,0⟩
 ⟨x.1,x.2.ai,false⟩
theorem R7 (ρ:List Nat) (m:Mk):bf ρ (lN m)=lN m:=rfl
theorem Dn (re:Re) (l:List V):(re.cells.map V.d++l).take 8=re.cells.map V.d:=List.take_left' (by simp [Re.fW])
theorem E5 (re:Re) (l:List V) (n:Nat):(re.cells.map V.d++l).drop (n+8)=l.drop n:=by rw[Nat.add_comm,<- List.drop_drop,List.drop_left' (by simp [Re.fW])]
theorem Nz (l:List Int) (dC most:Int) (hl:∀x∈l,fx x) (h0:0<=most) (h1:most<=1000000):aM prog 33 [.d (an l),i64 dC,i64 most] (aE (mO l dC most)):=by refine bk func33 ntmps33 results33 0 455 ?_;simp only[zW,simprocAttr,i64];refine PB 1 (P3 5 ae aJ ⟨l,0,dC,most,0⟩ 0 ae ⟨hl,aj,aj,by simpa using h0,h1,aj,aj⟩ aJ) rfl rfl rfl rfl (ca _ _) ?_;rw[R7];have hR:mO l dC most=⟨(Mk.tree 5 ⟨l,0,dC,most,0⟩).1,(Mk.tree 5 ⟨l,0,dC,most,0⟩).2.ai,false⟩:=rfl;rw[hR];generalize Mk.tree 5 ⟨l,0,dC,most,0⟩=R;simp only[zW,simprocAttr,i64];refine aA mix [6] [] aN ?_;simp only[zJ,simprocAttr,lN,Dn,E5,ai6];simp only[zW,simprocAttr,Re.ah,aE,bV,i64]
end Go.Proofs.Ytfmdmlfhigocaaa
namespace Go.Proofs.Ytfmdmlfhigocaaa
open Go.VL Go.Proofs.Try
def pk (c:Int):VL.Obj:=⟨0,true,1,[[i64 c]]⟩
mutual
def Re.depth:Re->Int
 |.mk _ _ kids _ _ _ _ _=>Re.EO kids 0+1
def Re.EO:List Re->Int->Int
 |[],a=>a
 |k::l,a=>Re.EO l (max a k.depth)
end
def rP (l:List Int):Int:=l.foldl max 0
theorem Re.He:∀(l:List Re) (a:Int),Re.EO l a=(l.map Re.depth).foldl max a
 |[],a=>by simp [Re.EO]
 |k::l,a=>by simp [Re.EO,Re.He l]
theorem Re.mc (re:Re):re.depth=rP (re.kids.map Re.depth)+1:=by
 cases re;simp [Re.depth,Re.He,Re.kids,rP]
theorem Q0 (l:List Int) (k:Int):rP (l++[k])=max (rP l) k:=by simp [rP,List.foldl_append]
theorem oN {b:Int}:∀(l:List Int) (a:Int),a<=b->(∀x∈l,x<=b)->l.foldl max a<=b
 |[],a,h,_=>h
 |x::l,a,h,hl=>oN l (max a x) (by have:=hl x aj;omega) (λy hy=>hl y (by simp [hy]))
theorem oT:∀(l:List Int) (a:Int),a<=l.foldl max a
 |[],a=>ajs _
 |x::l,a=>Int.le_trans ae (oT l (max a x))
theorem Re.Kf (re:Re):0<=re.depth/\re.depth<=re.size:=by
 refine Re.ind (Q:=λre=>0<=re.depth/\re.depth<=re.size) (λre ih=>?_) re;rw[Re.mc,Re.size_eq];have h1:=oT (re.kids.map Re.depth) 0;have h2:rP (re.kids.map Re.depth)<=(Re.bT re.kids:Nat):=oN _ _ ae (λx hx=>by
  obtain⟨k,hk,rfl⟩:=List.mem_map.1 hx;have:=Re.Ay hk;have:=(ih k hk).2;omega)
 unfold rP at *;omega
theorem JN (re:Re) (hs:re.size<=1000000000):aM prog 47 [kj re] (i64 re.depth):=by
 revert hs;refine Re.ind (Q:=λre=>re.size<=1000000000->aM prog 47 [kj re] (i64 re.depth)) (λre ih hs=>?_) re;have hlen:=Re.mP re.kids;have fY:=Re.size_eq re;have hd:=Re.Kf re;rw[Re.mc]at hd ⊢;refine bk func47 ntmps47 results47 0 31 ?_;simp only[zJ,simprocAttr,aq re,iD,bD];refine ay (λn e s=>∃i:Nat,n=re.kids.length-i/\i<=re.kids.length/\e 1=.rf 0 0 0 0/\e 3=i64 (rP ((re.kids.take i).map Re.depth))/\e 4=i64 i/\s=[⟨0,true,8,[re.cells.map .d]⟩])
  ⟨_,_,_,bJ.refl,0,rfl,ae,rfl,rfl,rfl,by rw[Re.ah re];rfl⟩ ?_
 rintro n e s ⟨i,rfl,hi,h1,h3,h4,rfl⟩;rcases ajr i re.kids.length with aB|iA
 ·obtain⟨k,hk⟩:∃k,re.kids[i]?=some k:=bZ aB;have hm:=ai4 hk;have JM:=Re.bN hm;simp only[zJ,simprocAttr,Re.ah re,iD,bD,h1,h3,h4,aB,hk];refine bO (ih k hm ae) ?_;simp only[zJ,simprocAttr,Re.ah re,iD,bD,h1,h3,h4];refine⟨re.kids.length-(i+1),_,_,ae,bJ.refl,i+1,rfl,aB,?_,?_,?_,rfl⟩ <;> (try simp only[zU,gV,cy,cJ,dV,reduceIte])
  ·exact h1
  ·rw[bj hk,akf,aiZ,ai2,Q0]
  ·rw[bF _ ae];rfl
 ·have dY:i=re.kids.length:=by omega
  subst dY;rw[ajt]at h3;have w1:IntKind.i64.wrap (rP (re.kids.map Re.depth)+1)=rP (re.kids.map Re.depth)+1:=bF _ ae;simp only[zJ,simprocAttr,Re.ah re,iD,bD,h1,h3,h4,aj7,w1];all_goals exact ed
def cw (op:Int):Int×Int :=
 if op=2\/op=3 then (2,-1) else if op=4\/op=5\/op=7\/op=8\/op=9 then (1,1) else if op=10 then (2,2) else (0,0)
theorem NP (op:Int):aM prog 98 [i64 op] (.tu [i64 (cw op).1,i64 (cw op).2]):=by
 have ov:op=2\/op=3\/op=4\/op=5\/op=7\/op=8\/op=9\/op=10\/(¬op=2/\¬op=3/\¬op=4/\¬op=5/\¬op=7/\¬op=8/\¬op=9/\¬op=10):=ae;rcases ov with p|p|p|p|p|p|p|p|⟨p1,p2,p3,p4,p5,p6,p7,p8⟩
 all_goals
  first
   |(rw[p]
     refine bk func98 ntmps98 results98 0 317 ?_;simp only[zW,simprocAttr,i64];all_goals exact ed)
   |(rw[show cw op=(0,0) by simp [cw,p1,p2,p3,p4,p5,p6,p7,p8]]
     refine bk func98 ntmps98 results98 0 317 ?_;simp only[zJ,simprocAttr,p1,p2,p3,p4,p5,p6,p7,p8];all_goals exact ed)
def sh (top:Int):Int->List (Int×Int)->Bool
 |_,[]=>true
 |p,s::l=>decide (0<=s.1/\s.1<=s.2/\s.2<=top/\p+1<s.1)&&sh top s.2 l
def iZ (l:List (Int×Int)) (top:Int):Bool:=decide (l.length<=64)&&sh top (-2) l
def mu (l:List (Int×Int)):Nat->Int
 |0=>-2
 |i+1=>(l[i]?.map (·.2)).getD 0
theorem Lh (l:List (Int×Int)) (hl:l.length<=1000000000) (top:Int) (ht:top<=1114111):aM prog 99 [.d (.sl (l.map aU)),i64 top] (bV (iZ l top)):=by
 refine bk func99 ntmps99 results99 0 51 ?_;by_cases RH:(64:Int)<l.length
 ·simp only[zI,simprocAttr,RH];have:¬l.length<=64:=ae;simp [iZ,bV,this]
 have X6:l.length<=64:=ae;have hR:iZ l top=sh top (-2) l:=by simp [iZ,X6]
 rw[hR];simp only[zI,simprocAttr,RH];refine ay (λn e s=>∃i:Nat,n=l.length-i/\i<=l.length/\e 0=.d (.sl (l.map aU))/\e 1=i64 top/\e 5=i64 i/\s=[]/\sh top (-2) l=sh top (mu l i) (l.drop i)/\(0<i->0<=mu l i/\mu l i<=top))
  ⟨_,_,_,bJ.refl,0,rfl,ae,rfl,rfl,rfl,rfl,rfl,λh=>absurd h ae⟩ ?_
 rintro n e s ⟨i,rfl,hi,h0,h1,h5,rfl,pZ,nY⟩;rcases ajr i l.length with aB|iA
 ·obtain⟨k,hk⟩:∃k,l[i]?=some k:=bZ aB;have hd:l.drop i=k::l.drop (i+1):=by rw[List.drop_eq_getElem_cons aB];rw[ajg aB]at hk;simp only[ai5]at hk;rw[hk]
  rw[hd]at pZ;simp only[sh]at pZ;have Ap:mu l (i+1)=k.2:=by simp [mu,hk]
  simp only[zI,simprocAttr,h0,h1,h5,aB];refine aA mix [] [] aN ?_;cases i with
  |zero =>
   have pZ:sh top (-2) l=(decide (0<=k.1/\k.1<=k.2/\k.2<=top/\-2+1<k.1)&&sh top k.2 (l.drop (0+1))):=pZ;simp only[zI,simprocAttr,h0,h1,h5,hk,aU,iD,ajn]
   repeat' (first
 |(with_reducible refine And.intro sW ?_)
 |(with_reducible first|refine lI (λhc=>?_) (λhc=>?_)|refine eu (λhc=>?_) (λhc=>?_)|refine ep (λhc=>?_) (λhc=>?_)|refine dn (λhc=>?_) (λhc=>?_)|refine dm (λhc=>?_) (λhc=>?_)|refine ja (λhc=>?_) (λhc=>?_)|refine eh (λhc=>?_) (λhc=>?_))<;>simp only[zI,simprocAttr,h0,h1,h5,hk,aU,iD,ajn,hc])
   any_goals (refine congrArg bV (Eq.symm ?_);rw[pZ,show decide (0<=k.1/\k.1<=k.2/\k.2<=top/\-2+1<k.1)=false from ce ae];rfl)
   refine⟨l.length-1,_,_,ae,bJ.refl,1,rfl,aB,?_,?_,?_,rfl,?_,?_⟩ <;> (try simp only[zU,gV,cy,cJ,dV,reduceIte])
   ·exact h0
   ·exact h1
   ·rw[bF _ ae];rfl
   ·rw[pZ,Ap,show decide (0<=k.1/\k.1<=k.2/\k.2<=top/\-2+1<k.1)=true from bi ae];rfl
   ·intro _;rw[Ap];omega
  |succ j =>
   obtain⟨kp,FQ⟩:∃k,l[j]?=some k:=⟨_,ajg (by omega:j<l.length)⟩
   have UQ:mu l (j+1)=kp.2:=by simp [mu,FQ]
   have nY:=nY ae;rw[UQ]at nY pZ;have w1:IntKind.i64.wrap (((j+1:Nat):Int)-1)=(j:Int):=by rw[bF _ ae];omega
   have w2:IntKind.i64.wrap (kp.2+1)=kp.2+1:=bF _ ae;have p0:(0:Int)<((j+1:Nat):Int):=ae;have q0:(0:Int)<=((j+1:Nat):Int):=ae;have q1:((j+1:Nat):Int)<l.length:=ae;have q2:(j:Int)<l.length:=ae;simp only[zI,simprocAttr,h0,h1,h5,hk,aU,iD,FQ,w1,w2,p0,q0,q1,q2]
   repeat' (first
 |(with_reducible refine And.intro sW ?_)
 |(with_reducible first|refine lI (λhc=>?_) (λhc=>?_)|refine eu (λhc=>?_) (λhc=>?_)|refine ep (λhc=>?_) (λhc=>?_)|refine dn (λhc=>?_) (λhc=>?_)|refine dm (λhc=>?_) (λhc=>?_)|refine ja (λhc=>?_) (λhc=>?_)|refine eh (λhc=>?_) (λhc=>?_))<;>simp only[zI,simprocAttr,h0,h1,h5,hk,aU,iD,FQ,w1,w2,p0,q0,q1,q2,hc])
   any_goals (refine congrArg bV (Eq.symm ?_);rw[pZ,show decide (0<=k.1/\k.1<=k.2/\k.2<=top/\kp.2+1<k.1)=false from ce ae];rfl)
   refine⟨l.length-(j+1+1),_,_,ae,bJ.refl,j+1+1,rfl,aB,?_,?_,?_,rfl,?_,?_⟩ <;> (try simp only[zU,gV,cy,cJ,dV,reduceIte])
   ·exact h0
   ·exact h1
   ·rw[bF _ ae];rfl
   ·rw[pZ,Ap,show decide (0<=k.1/\k.1<=k.2/\k.2<=top/\kp.2+1<k.1)=true from bi ae];rfl
   ·intro _;rw[Ap];omega
 ·have dY:i=l.length:=by omega
  subst dY;simp only[zI,simprocAttr,h0,h1,h5,aj7];rw[pZ];simp [sh,bV]
def bS (re:Re) (ai top:Int):Bool :=
 decide (0<=re.op/\re.op<=11/\(cw re.op).1<=re.kids.length/\((cw re.op).2<0\/(re.kids.length:Int)<=(cw re.op).2)) &&
 ((if re.op=1 then iZ re.set top else decide (re.set.length=0)) &&
 ((if re.op=4 then decide (0<=re.mn/\re.mn<=32/\-1<=re.mx/\re.mx≠0/\re.mx<=32/\(0<re.mx->re.mn<=re.mx)/\0<=re.mode/\re.mode<=2) else decide (re.mn=0/\re.mx=0/\re.mode=0)) &&
 ((if re.op=5\/re.op=6\/re.op=10 then decide (1<=re.n/\re.n<=ai) else if re.op=11 then decide (0<=re.n/\re.n<=5) else decide (re.n=0)) &&
 (!re.neg||decide (re.op=7\/re.op=8)))))
theorem Ie (re:Re) (hf:re.cN=true) (ai top:Int) (ht:top<=1114111):aM prog 79 [kj re,i64 ai,i64 top] (bV (bS re ai top)):=by
 obtain⟨rk,hlen,Hc⟩:=Re.fT hf;have pZ:=Lh re.set rk top ht;have UB:=NP re.op;by_cases ho:re.op<0\/11<re.op
 ·rw[show bS re ai top=false by simp only[bS];rw[ce ae];rfl];have SQ:re.op<0\/(¬re.op<0/\11<re.op):=ae;refine bk func79 ntmps79 results79 0 361550014853497117429835520396253725135 ?_;simp only[zI,simprocAttr,aq re,iD,bD];refine bO UB ?_;rcases SQ with h1|⟨h1,h2⟩
  ·simp only[zI,simprocAttr,aq re,iD,bD,h1];rfl
  ·simp only[zI,simprocAttr,aq re,iD,bD,h1,h2];rfl
 ·have hc:re.op=0\/re.op=1\/re.op=2\/re.op=3\/re.op=4\/re.op=5\/re.op=6\/re.op=7\/re.op=8\/re.op=9\/re.op=10\/re.op=11:=by omega
  clear ho;rcases hc with p|p|p|p|p|p|p|p|p|p|p|p
  case inr.inl =>
   rw[p]at UB;simp only[cw,jT,or_self,if_false,or_true,true_or,or_false,false_or,if_true,reduceIte]at UB;generalize hv:iZ re.set top=sv at pZ;cases sv;all_goals
    refine bk func79 ntmps79 results79 0 361550014853497117429835520396253725135 ?_;simp only[zI,simprocAttr,aq re,iD,bD,p];refine bO UB ?_;simp only[zI,simprocAttr,aq re,iD,bD,p]
    repeat' (first
 |(with_reducible refine And.intro sW ?_)
 |(with_reducible first|refine lI (λhc=>?_) (λhc=>?_)|refine eu (λhc=>?_) (λhc=>?_)|refine ep (λhc=>?_) (λhc=>?_)|refine dn (λhc=>?_) (λhc=>?_)|refine dm (λhc=>?_) (λhc=>?_)|refine ja (λhc=>?_) (λhc=>?_)|refine eh (λhc=>?_) (λhc=>?_))<;>simp only[zI,simprocAttr,aq re,iD,bD,p,hc])
   any_goals
    refine bO pZ ?_;simp only[zI,simprocAttr,aq re,iD,bD,p,bV]
   any_goals
    repeat' (first
 |(with_reducible refine And.intro sW ?_)
 |(with_reducible first|refine lI (λhc=>?_) (λhc=>?_)|refine eu (λhc=>?_) (λhc=>?_)|refine ep (λhc=>?_) (λhc=>?_)|refine dn (λhc=>?_) (λhc=>?_)|refine dm (λhc=>?_) (λhc=>?_)|refine ja (λhc=>?_) (λhc=>?_)|refine eh (λhc=>?_) (λhc=>?_))<;>simp only[zI,simprocAttr,aq re,iD,bD,p,bV,hc])
   all_goals
    rcases akn re.neg with e8|e8;all_goals
     try (exfalso;rw[e8]at hc;exact absurd hc aJ;done)
     try first
      |(first|refine congrArg bV (Eq.symm (Bool.eq_false_iff.2 λh=>?_))|refine Eq.symm (Bool.eq_false_iff.2 λh=>?_)
        simp only[bS,cw,p,e8,hv,jT,or_self,if_false,or_true,true_or,or_false,false_or,if_true,reduceIte,aji,decide_eq_true_eq,aje,ajd,ajC,ajx,reduceCtorEq,ajf,false_and,and_false,true_and,and_true]at h;try omega
        done)
      |(first|refine congrArg bV (Eq.symm ?_)|refine Eq.symm ?_
        simp only[bS,cw,p,e8,hv,jT,or_self,if_false,or_true,true_or,or_false,false_or,if_true,reduceIte,aji,decide_eq_true_eq,aje,ajd,ajC,ajx,reduceCtorEq,ajf,false_and,and_false,true_and,and_true];try omega
        done)
  all_goals
   rw[p]at UB;simp only[cw,jT,or_self,if_false,or_true,true_or,or_false,false_or,if_true,reduceIte]at UB;refine bk func79 ntmps79 results79 0 361550014853497117429835520396253725135 ?_;simp only[zI,simprocAttr,aq re,iD,bD,p];refine bO UB ?_;simp only[zI,simprocAttr,aq re,iD,bD,p]
   repeat' (first
 |(with_reducible refine And.intro sW ?_)
 |(with_reducible first|refine lI (λhc=>?_) (λhc=>?_)|refine eu (λhc=>?_) (λhc=>?_)|refine ep (λhc=>?_) (λhc=>?_)|refine dn (λhc=>?_) (λhc=>?_)|refine dm (λhc=>?_) (λhc=>?_)|refine ja (λhc=>?_) (λhc=>?_)|refine eh (λhc=>?_) (λhc=>?_))<;>simp only[zI,simprocAttr,aq re,iD,bD,p,hc])
  all_goals
   rcases akn re.neg with e8|e8;all_goals
    try (exfalso;rw[e8]at hc;exact absurd hc aJ;done)
    try first
     |(refine congrArg bV (Eq.symm (Bool.eq_false_iff.2 λh=>?_))
       simp only[bS,cw,p,e8,jT,or_self,if_false,or_true,true_or,or_false,false_or,if_true,reduceIte,aji,decide_eq_true_eq,aje,ajd,ajC,ajx,reduceCtorEq,ajf,false_and,and_false,true_and,and_true]at h;try omega
       done)
     |(refine congrArg bV (Eq.symm ?_)
       simp only[bS,cw,p,e8,jT,or_self,if_false,or_true,true_or,or_false,false_or,if_true,reduceIte,aji,decide_eq_true_eq,aje,ajd,ajC,ajx,reduceCtorEq,ajf,false_and,and_false,true_and,and_true];try omega
       done)
def Re.whole (re:Re) (ai top:Int):Bool:=re.every λr=>bS r ai top
theorem Kn (ai top:Int) (ht:top<=1114111) (re:Re) (hf:re.cN=true):aM prog 48 [kj re,i64 ai,i64 top] (bV (re.whole ai top)):=by
 revert hf;refine Re.ind (Q:=λre=>re.cN=true->aM prog 48 [kj re,i64 ai,i64 top] (bV (re.whole ai top))) (λre ih hf=>?_) re;obtain⟨rk,hlen,Hc⟩:=Re.fT hf;have WG:=Ie re hf ai top ht;rw[aq]at WG;simp only[i64,iD,bD]at WG;refine bk func48 ntmps48 results48 0 207 ?_;simp only[zI,simprocAttr,aq re,iD,bD];refine bO WG ?_;cases jf:bS re ai top with
 |false =>
  simp only[zI,simprocAttr,bV];rw[show re.whole ai top=false by
   rw[ajO];intro h;unfold Re.whole at h;rw[Re.av,jf]at h;exact absurd h.1 aJ]
 |true =>
  simp only[zI,simprocAttr,bV];refine ay (λn e s=>∃i:Nat,n=re.kids.length-i/\i<=re.kids.length/\e 1=i64 ai/\e 2=i64 top/\e 3=.rf 0 0 0 0/\e 7=i64 i/\(∀x∈re.kids.take i,x.whole ai top=true)/\s=[⟨0,true,8,[re.cells.map .d]⟩])
   ⟨_,_,_,bJ.refl,0,rfl,ae,rfl,rfl,rfl,rfl,aj,by simp [Re.ah re,iD,bD]⟩ ?_
  rintro n e s ⟨i,rfl,hi,h1,h2,h3,h7,hn,rfl⟩;rcases ajr i re.kids.length with aB|iA
  ·obtain⟨k,hk⟩:∃k,re.kids[i]?=some k:=bZ aB;have hm:=ai4 hk;simp only[zI,simprocAttr,Re.ah re,iD,bD,h1,h2,h3,h7,aB,hk];refine bO (ih k hm (Hc k hm)) ?_;cases dZ:k.whole ai top with
   |false =>
    simp only[zI,simprocAttr,bV];rw[show re.whole ai top=false by
     rw[ajO];intro h;unfold Re.whole at h;rw[Re.av]at h;have:=h.2 k hm;unfold Re.whole at dZ;rw[dZ]at this;cases this]
   |true =>
    simp only[zI,simprocAttr,bV,Re.ah re,iD,bD,h1,h2,h3,h7];refine⟨re.kids.length-(i+1),_,_,ae,bJ.refl,i+1,rfl,aB,?_,?_,?_,?_,?_,rfl⟩ <;> (try simp only[zU,gV,cy,cJ,dV,reduceIte])
    ·exact h1
    ·exact h2
    ·exact h3
    ·rw[bF _ ae];rfl
    ·intro x hx;rcases cC hk hx with h|rfl
     ·exact hn x h
     ·exact dZ
  ·have dY:i=re.kids.length:=by omega
   subst dY;simp only[zI,simprocAttr,Re.ah re,iD,bD,h1,h2,h3,h7,aj7];rw[show re.whole ai top=true from (Re.av re).2 ⟨jf,λk hk=>hn k (by rw[ajt];exact hk)⟩]
def hU (aF:Bool):Int:=if aF=true then 1114111 else 255
def cz (p:eJ):Int :=
 if 256<p.re.size\/24<p.re.depth then 4 else if p.ai<0\/9<p.ai\/p.re.whole p.ai (hU p.aF)=false then 1 else 0
theorem nE (p:eJ) (hf:p.re.cN=true) (hs:p.re.size<=1000000000):aM prog 25 [aE p] (i64 (cz p)):=by
 have h1:=Oc p.re hs;have h2:=JN p.re hs;have h3:=Kn p.ai (hU p.aF) (by unfold hU;split <;> omega) p.re hf;unfold cz;rw[aq]at h1 h2 h3;cases p with
 |mk re ai aF =>
 simp only[i64,iD,bD]at h1 h2 h3;simp only at *;refine bk func25 ntmps25 results25 0 15 ?_;simp only[zI,simprocAttr,aE,Re.ah re,bV,iD,bD];refine bO h1 ?_;simp only[zI,simprocAttr,aE,bV,iD,bD];by_cases c1:(256:Int)<re.size
 ·simp only[zX,simprocAttr,c1];rw[tK]
 simp only[zI,simprocAttr,aE,bV,iD,bD,c1];refine bO h2 ?_;simp only[zI,simprocAttr,aE,bV,iD,bD];by_cases c2:(24:Int)<re.depth
 ·simp only[zX,simprocAttr,c2]
 rw[bd];simp only[zI,simprocAttr,aE,bV,iD,bD,c2];cases aF;all_goals
  simp only[hU,if_true,if_false,reduceIte,reduceCtorEq,ajf]at h3 ⊢;simp only[zI,simprocAttr,aE,bV,iD,bD];by_cases c3:ai<0
  ·simp only[zI,simprocAttr,aE,bV,iD,bD,c3]
  by_cases c4:9<ai
  ·simp only[zI,simprocAttr,aE,bV,iD,bD,c3,c4,if_true,or_true,true_or]
  simp only[zI,simprocAttr,aE,bV,iD,bD,c3,c4];refine bO h3 ?_;first
   |(cases hw:re.whole ai 1114111 <;> (simp only[zI,simprocAttr,bV]);done)
   |(cases hw:re.whole ai 255 <;> (simp only[zI,simprocAttr,bV]);done)
end Go.Proofs.Ytfmdmlfhigocaaa
namespace Go.Proofs.Ytfmdmlfhigocaaa
open Go.VL Go.Proofs.Try
def aI (x:Re):VL.Obj:=⟨0,true,8,[x.cells.map .d]⟩
end Go.Proofs.Ytfmdmlfhigocaaa
