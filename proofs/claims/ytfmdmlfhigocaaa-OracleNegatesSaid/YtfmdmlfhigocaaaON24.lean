/- A part of the proof (F12 F30 F22 F31 F34 F35 F36 F14 F23 F24). -/
import Derived.Test.YtfmdmlfhigocaaaON13
import Derived.Test.YtfmdmlfhigocaaaON16
import Derived.Test.YtfmdmlfhigocaaaON20
import Derived.Test.YtfmdmlfhigocaaaON23
set_option linter.unusedSimpArgs false
set_option linter.unusedVariables false
open Nat renaming reduceShiftRight → cQ, reduceMod → dx, reduceEqDiff → eI, reduceBEq → gj
open Int renaming reduceEq → mA
set_option maxRecDepth 100000
set_option maxHeartbeats 80000000
namespace Go.Proofs.Ytfmdmlfhigocaaa
open Go.VL Go.Proofs.Try
structure ic where
 re:Re
 ak:Int
 aN:Bool
def aZ (p:ic):V:=.ag (p.re.cells.map .d++[i64 p.ak,bV p.aN])
def lN (l:List Int) (cu most:Int):ic :=
 let x:=Mk.tree 5 ⟨l,0,cu,most,0⟩
 ⟨x.1,x.2.ak,false⟩
theorem OT (ρ:List Nat) (m:Mk):aT ρ (bR m)=bR m:=rfl
theorem A5 (re:Re) (l:List V):(re.cells.map V.d++l).take 8=re.cells.map V.d:=List.take_left' (by simp [Re.bG])
theorem CB (re:Re) (l:List V) (n:Nat):(re.cells.map V.d++l).drop (n+8)=l.drop n:=by rw[Nat.add_comm,<- List.drop_drop,List.drop_left' (by simp [Re.bG])]
theorem KN (l:List Int) (cu most:Int) (hl:∀x∈l,jC x) (h0:0<=most) (h1:most<=1000000):aO prog 33 [.d (al l),i64 cu,i64 most] (aZ (lN l cu most)):=by refine an func33 rfl ntmps33 results33 rfl 0 455 (by simp) (by simp) ?_;simp only[zW,simprocAttr,i64];refine Mv 1 (MN 5 (by omega) (by decide) ⟨l,0,cu,most,0⟩ 0 (by omega) ⟨hl,by simp,by simp,by simpa using h0,h1,by simp,by simp⟩ (by decide)) rfl rfl rfl rfl (bm _ _) ?_;rw[OT];have hR:lN l cu most=⟨(Mk.tree 5 ⟨l,0,cu,most,0⟩).1,(Mk.tree 5 ⟨l,0,cu,most,0⟩).2.ak,false⟩:=rfl;rw[hR];generalize Mk.tree 5 ⟨l,0,cu,most,0⟩=R;simp only[zW,simprocAttr,i64];refine ar mix [6] [] (by rfl) ?_;simp only[zW,simprocAttr,i64,bR,A5,CB,af7];simp only[zW,simprocAttr,Re.ae,aZ,bV,i64]
end Go.Proofs.Ytfmdmlfhigocaaa
namespace Go.Proofs.Ytfmdmlfhigocaaa
open Go.VL Go.Proofs.Try
def nL (c:Int):VL.Obj:=⟨0,true,1,[[i64 c]]⟩
mutual
def Re.depth:Re->Int
 |.mk _ _ kids _ _ _ _ _=>Re.Cj kids 0+1
def Re.Cj:List Re->Int->Int
 |[],a=>a
 |k::l,a=>Re.Cj l (max a k.depth)
end
def oC (l:List Int):Int:=l.foldl max 0
theorem Re.Ez:∀(l:List Re) (a:Int),Re.Cj l a=(l.map Re.depth).foldl max a
 |[],a=>by simp [Re.Cj]
 |k::l,a=>by simp [Re.Cj,Re.Ez l]
theorem Re.gF (re:Re):re.depth=oC (re.kids.map Re.depth)+1:=by
 cases re;simp [Re.depth,Re.Ez,Re.kids,oC]
theorem NI (l:List Int) (k:Int):oC (l++[k])=max (oC l) k:=by simp [oC,List.foldl_append]
theorem nu {b:Int}:∀(l:List Int) (a:Int),a<=b->(∀x∈l,x<=b)->l.foldl max a<=b
 |[],a,h,_=>h
 |x::l,a,h,hl=>nu l (max a x) (by have:=hl x (by simp);omega) (λy hy=>hl y (by simp [hy]))
theorem jx:∀(l:List Int) (a:Int),a<=l.foldl max a
 |[],a=>agn _
 |x::l,a=>aho (by omega) (jx l (max a x))
theorem Re.HE (re:Re):0<=re.depth/\re.depth<=re.size:=by
 refine Re.ind (Q:=λre=>0<=re.depth/\re.depth<=re.size) (λre ih=>?_) re;rw[Re.gF,Re.size_eq];have h1:=jx (re.kids.map Re.depth) 0;have h2:oC (re.kids.map Re.depth)<=(Re.bZ re.kids:Nat):=nu _ _ (by omega) (λx hx=>by
  obtain⟨k,hk,rfl⟩:=List.mem_map.1 hx;have:=Re.yA hk;have:=(ih k hk).2;omega)
 unfold oC at *;omega
theorem Ha (re:Re) (hs:re.size<=1000000000):aO prog 47 [fv re] (i64 re.depth):=by
 revert hs;refine Re.ind (Q:=λre=>re.size<=1000000000->aO prog 47 [fv re] (i64 re.depth)) (λre ih hs=>?_) re;have hlen:=Re.lO re.kids;have fF:=Re.size_eq re;have hd:=Re.HE re;rw[Re.gF]at hd ⊢;refine an func47 rfl ntmps47 results47 rfl 0 31 (by simp) (by simp) ?_;simp only[zW,simprocAttr,i64,ai re,iD,bD];refine au (λn e s=>∃i:Nat,n=re.kids.length-i/\i<=re.kids.length/\e 1=.rf 0 0 0 0/\e 3=i64 (oC ((re.kids.take i).map Re.depth))/\e 4=i64 i/\s=[⟨0,true,8,[re.cells.map .d]⟩])
  ⟨_,_,_,br.refl,0,rfl,by omega,rfl,rfl,rfl,by rw[Re.ae re];rfl⟩ ?_
 rintro n e s ⟨i,rfl,hi,h1,h3,h4,rfl⟩;rcases agi i re.kids.length with az|fI
 ·obtain⟨k,hk⟩:∃k,re.kids[i]?=some k:=⟨_,afP az⟩
  have hm:=afW hk;have wC:=Re.bL hm;simp only[zW,simprocAttr,i64,Re.ae re,iD,bD,h1,h3,h4,az,hk];refine aj (ih k hm (by omega)) (by simp [ah,ah.go,ai,i64,bV,aM]) (by simp [ah,ah.go,ai,i64,bV,aM]) ?_;simp only[zW,simprocAttr,i64,Re.ae re,iD,bD,h1,h3,h4];refine⟨re.kids.length-(i+1),_,_,by omega,br.refl,i+1,rfl,az,?_,?_,?_,rfl⟩ <;> (try simp only[zU,gj,cQ,dx,eI,reduceIte])
  ·exact h1
  ·rw[aR hk,aha,afR,afU,NI]
  ·rw[bd _ (by omega)];rfl
 ·have cV:i=re.kids.length:=by omega
  subst cV;rw[agj]at h3;have w1:IntKind.i64.wrap (oC (re.kids.map Re.depth)+1)=oC (re.kids.map Re.depth)+1:=bd _ (by omega);simp only[zW,simprocAttr,i64,Re.ae re,iD,bD,h1,h3,h4,agK,w1];all_goals first|exact⟨rfl,rfl⟩|exact⟨rfl,trivial⟩|rfl|trivial|(rw[ai];rfl)
def cr (op:Int):Int×Int :=
 if op=2\/op=3 then (2,-1) else if op=4\/op=5\/op=7\/op=8\/op=9 then (1,1) else if op=10 then (2,2) else (0,0)
theorem KU (op:Int):aO prog 98 [i64 op] (.tu [i64 (cr op).1,i64 (cr op).2]):=by
 have rM:op=2\/op=3\/op=4\/op=5\/op=7\/op=8\/op=9\/op=10\/(¬op=2/\¬op=3/\¬op=4/\¬op=5/\¬op=7/\¬op=8/\¬op=9/\¬op=10):=by omega
 rcases rM with p|p|p|p|p|p|p|p|⟨p1,p2,p3,p4,p5,p6,p7,p8⟩
 all_goals
  first
   |(rw[p]
     refine an func98 rfl ntmps98 results98 rfl 0 317 (by simp) (by simp) ?_;simp only[zW,simprocAttr,i64];all_goals first|exact⟨rfl,rfl⟩|exact⟨rfl,trivial⟩|rfl|trivial|(rw[ai];rfl))
   |(rw[show cr op=(0,0) by simp [cr,p1,p2,p3,p4,p5,p6,p7,p8]]
     refine an func98 rfl ntmps98 results98 rfl 0 317 (by simp) (by simp) ?_;simp only[zW,simprocAttr,i64,p1,p2,p3,p4,p5,p6,p7,p8];all_goals first|exact⟨rfl,rfl⟩|exact⟨rfl,trivial⟩|rfl|trivial|(rw[ai];rfl))
def qG (top:Int):Int->List (Int×Int)->Bool
 |_,[]=>true
 |p,s::l=>decide (0<=s.1/\s.1<=s.2/\s.2<=top/\p+1<s.1)&&qG top s.2 l
def gZ (l:List (Int×Int)) (top:Int):Bool:=decide (l.length<=64)&&qG top (-2) l
def lu (l:List (Int×Int)):Nat->Int
 |0=>-2
 |i+1=>(l[i]?.map (·.2)).getD 0
theorem II (l:List (Int×Int)) (hl:l.length<=1000000000) (top:Int) (ht:top<=1114111):aO prog 99 [.d (.sl (l.map aV)),i64 top] (bV (gZ l top)):=by
 refine an func99 rfl ntmps99 results99 rfl 0 51 (by simp) (by simp) ?_;by_cases Ox:(64:Int)<l.length
 ·simp only[zX,simprocAttr,i64,Ox];have:¬l.length<=64:=by omega
  simp [gZ,bV,this]
 have UY:l.length<=64:=by omega
 have hR:gZ l top=qG top (-2) l:=by simp [gZ,UY]
 rw[hR];simp only[zX,simprocAttr,i64,Ox];refine au (λn e s=>∃i:Nat,n=l.length-i/\i<=l.length/\e 0=.d (.sl (l.map aV))/\e 1=i64 top/\e 5=i64 i/\s=[]/\qG top (-2) l=qG top (lu l i) (l.drop i)/\(0<i->0<=lu l i/\lu l i<=top))
  ⟨_,_,_,br.refl,0,rfl,by omega,rfl,rfl,rfl,rfl,rfl,λh=>absurd h (by omega)⟩ ?_
 rintro n e s ⟨i,rfl,hi,h0,h1,h5,rfl,oz,mU⟩;rcases agi i l.length with az|fI
 ·obtain⟨k,hk⟩:∃k,l[i]?=some k:=⟨_,afP az⟩
  have hd:l.drop i=k::l.drop (i+1):=by rw[List.drop_eq_getElem_cons az];rw[afP az]at hk;simp only[afY]at hk;rw[hk]
  rw[hd]at oz;simp only[qG]at oz;have y3:lu l (i+1)=k.2:=by simp [lu,hk]
  simp only[zX,simprocAttr,i64,h0,h1,h5,az];refine ar mix [] [] (by rfl) ?_;cases i with
  |zero =>
   have oz:qG top (-2) l=(decide (0<=k.1/\k.1<=k.2/\k.2<=top/\-2+1<k.1)&&qG top k.2 (l.drop (0+1))):=oz;simp only[zX,simprocAttr,i64,h0,h1,h5,hk,aV,iD,agk]
   repeat' (first
 |(with_reducible refine And.intro (by first|omega|exact⟨by omega,by omega⟩|(simp;done)) ?_)
 |(with_reducible first|refine kB (λhc=>?_) (λhc=>?_)|refine dM (λhc=>?_) (λhc=>?_)|refine dL (λhc=>?_) (λhc=>?_)|refine cX (λhc=>?_) (λhc=>?_)|refine cW (λhc=>?_) (λhc=>?_)|refine g8 (λhc=>?_) (λhc=>?_)|refine dG (λhc=>?_) (λhc=>?_))<;>simp only[zX,simprocAttr,i64,h0,h1,h5,hk,aV,iD,agk,hc])
   any_goals (refine congrArg bV (Eq.symm ?_);rw[oz,show decide (0<=k.1/\k.1<=k.2/\k.2<=top/\-2+1<k.1)=false from b6 (by omega)];rfl)
   refine⟨l.length-1,_,_,by omega,br.refl,1,rfl,az,?_,?_,?_,rfl,?_,?_⟩ <;> (try simp only[zU,gj,cQ,dx,eI,reduceIte])
   ·exact h0
   ·exact h1
   ·rw[bd _ (by omega)];rfl
   ·rw[oz,y3,show decide (0<=k.1/\k.1<=k.2/\k.2<=top/\-2+1<k.1)=true from bi (by omega)];rfl
   ·intro _;rw[y3];omega
  |succ j =>
   obtain⟨kp,FV⟩:∃k,l[j]?=some k:=⟨_,afP (by omega:j<l.length)⟩
   have Vy:lu l (j+1)=kp.2:=by simp [lu,FV]
   have mU:=mU (by omega);rw[Vy]at mU oz;have w1:IntKind.i64.wrap (((j+1:Nat):Int)-1)=(j:Int):=by rw[bd _ (by omega)];omega
   have w2:IntKind.i64.wrap (kp.2+1)=kp.2+1:=bd _ (by omega);have p0:(0:Int)<((j+1:Nat):Int):=by omega
   have q0:(0:Int)<=((j+1:Nat):Int):=by omega
   have q1:((j+1:Nat):Int)<l.length:=by omega
   have q2:(j:Int)<l.length:=by omega
   simp only[zX,simprocAttr,i64,h0,h1,h5,hk,aV,iD,FV,w1,w2,p0,q0,q1,q2]
   repeat' (first
 |(with_reducible refine And.intro (by first|omega|exact⟨by omega,by omega⟩|(simp;done)) ?_)
 |(with_reducible first|refine kB (λhc=>?_) (λhc=>?_)|refine dM (λhc=>?_) (λhc=>?_)|refine dL (λhc=>?_) (λhc=>?_)|refine cX (λhc=>?_) (λhc=>?_)|refine cW (λhc=>?_) (λhc=>?_)|refine g8 (λhc=>?_) (λhc=>?_)|refine dG (λhc=>?_) (λhc=>?_))<;>simp only[zX,simprocAttr,i64,h0,h1,h5,hk,aV,iD,FV,w1,w2,p0,q0,q1,q2,hc])
   any_goals (refine congrArg bV (Eq.symm ?_);rw[oz,show decide (0<=k.1/\k.1<=k.2/\k.2<=top/\kp.2+1<k.1)=false from b6 (by omega)];rfl)
   refine⟨l.length-(j+1+1),_,_,by omega,br.refl,j+1+1,rfl,az,?_,?_,?_,rfl,?_,?_⟩ <;> (try simp only[zU,gj,cQ,dx,eI,reduceIte])
   ·exact h0
   ·exact h1
   ·rw[bd _ (by omega)];rfl
   ·rw[oz,y3,show decide (0<=k.1/\k.1<=k.2/\k.2<=top/\kp.2+1<k.1)=true from bi (by omega)];rfl
   ·intro _;rw[y3];omega
 ·have cV:i=l.length:=by omega
  subst cV;simp only[zX,simprocAttr,i64,h0,h1,h5,agK];rw[oz];simp [qG,bV]
def bK (re:Re) (ak top:Int):Bool :=
 decide (0<=re.op/\re.op<=11/\(cr re.op).1<=re.kids.length/\((cr re.op).2<0\/(re.kids.length:Int)<=(cr re.op).2)) &&
 ((if re.op=1 then gZ re.set top else decide (re.set.length=0)) &&
 ((if re.op=4 then decide (0<=re.mn/\re.mn<=32/\-1<=re.mx/\re.mx≠0/\re.mx<=32/\(0<re.mx->re.mn<=re.mx)/\0<=re.mode/\re.mode<=2) else decide (re.mn=0/\re.mx=0/\re.mode=0)) &&
 ((if re.op=5\/re.op=6\/re.op=10 then decide (1<=re.n/\re.n<=ak) else if re.op=11 then decide (0<=re.n/\re.n<=5) else decide (re.n=0)) &&
 (!re.neg||decide (re.op=7\/re.op=8)))))
theorem FG (re:Re) (hf:re.bC=true) (ak top:Int) (ht:top<=1114111):aO prog 79 [fv re,i64 ak,i64 top] (bV (bK re ak top)):=by
 obtain⟨ie,hlen,rQ⟩:=Re.cA hf;have oz:=II re.set ie top ht;have Uu:=KU re.op;by_cases ho:re.op<0\/11<re.op
 ·rw[show bK re ak top=false by simp only[bK];rw[b6 (by omega)];rfl];have PH:re.op<0\/(¬re.op<0/\11<re.op):=by omega
  refine an func79 rfl ntmps79 results79 rfl 0 361550014853497117429835520396253725135 (by simp) (by simp) ?_;simp only[zX,simprocAttr,i64,ai re,iD,bD];refine aj Uu (by simp [ah,ah.go,ai,i64,bV,aM]) (by simp [ah,ah.go,ai,i64,bV,aM]) ?_;rcases PH with h1|⟨h1,h2⟩
  ·simp only[zX,simprocAttr,i64,ai re,iD,bD,h1];rfl
  ·simp only[zX,simprocAttr,i64,ai re,iD,bD,h1,h2];rfl
 ·have hc:re.op=0\/re.op=1\/re.op=2\/re.op=3\/re.op=4\/re.op=5\/re.op=6\/re.op=7\/re.op=8\/re.op=9\/re.op=10\/re.op=11:=by omega
  clear ho;rcases hc with p|p|p|p|p|p|p|p|p|p|p|p
  case inr.inl =>
   rw[p]at Uu;simp only[cr,mA,or_self,if_false,or_true,true_or,or_false,false_or,if_true,reduceIte]at Uu;generalize hv:gZ re.set top=sv at oz;cases sv;all_goals
    refine an func79 rfl ntmps79 results79 rfl 0 361550014853497117429835520396253725135 (by simp) (by simp) ?_;simp only[zX,simprocAttr,i64,ai re,iD,bD,p];refine aj Uu (by simp [ah,ah.go,ai,i64,bV,aM]) (by simp [ah,ah.go,ai,i64,bV,aM]) ?_;simp only[zX,simprocAttr,i64,ai re,iD,bD,p]
    repeat' (first
 |(with_reducible refine And.intro (by first|omega|exact⟨by omega,by omega⟩|(simp;done)) ?_)
 |(with_reducible first|refine kB (λhc=>?_) (λhc=>?_)|refine dM (λhc=>?_) (λhc=>?_)|refine dL (λhc=>?_) (λhc=>?_)|refine cX (λhc=>?_) (λhc=>?_)|refine cW (λhc=>?_) (λhc=>?_)|refine g8 (λhc=>?_) (λhc=>?_)|refine dG (λhc=>?_) (λhc=>?_))<;>simp only[zX,simprocAttr,i64,ai re,iD,bD,p,hc])
   any_goals
    refine aj oz (by simp [ah,ah.go,ai,i64,bV,aM]) (by simp [ah,ah.go,ai,i64,bV,aM]) ?_;simp only[zX,simprocAttr,i64,ai re,iD,bD,p,bV]
   any_goals
    repeat' (first
 |(with_reducible refine And.intro (by first|omega|exact⟨by omega,by omega⟩|(simp;done)) ?_)
 |(with_reducible first|refine kB (λhc=>?_) (λhc=>?_)|refine dM (λhc=>?_) (λhc=>?_)|refine dL (λhc=>?_) (λhc=>?_)|refine cX (λhc=>?_) (λhc=>?_)|refine cW (λhc=>?_) (λhc=>?_)|refine g8 (λhc=>?_) (λhc=>?_)|refine dG (λhc=>?_) (λhc=>?_))<;>simp only[zX,simprocAttr,i64,ai re,iD,bD,p,bV,hc])
   all_goals
    rcases ahb re.neg with dA|dA;all_goals
     try (exfalso;rw[dA]at hc;exact absurd hc (by decide);done)
     try first
      |(first|refine congrArg bV (Eq.symm (Bool.eq_false_iff.2 λh=>?_))|refine Eq.symm (Bool.eq_false_iff.2 λh=>?_)
        simp only[bK,cr,p,dA,hv,mA,or_self,if_false,or_true,true_or,or_false,false_or,if_true,reduceIte,agb,decide_eq_true_eq,aga,af4,agz,agr,reduceCtorEq,age,false_and,and_false,true_and,and_true]at h;try omega
        done)
      |(first|refine congrArg bV (Eq.symm ?_)|refine Eq.symm ?_
        simp only[bK,cr,p,dA,hv,mA,or_self,if_false,or_true,true_or,or_false,false_or,if_true,reduceIte,agb,decide_eq_true_eq,aga,af4,agz,agr,reduceCtorEq,age,false_and,and_false,true_and,and_true];try omega
        done)
  all_goals
   rw[p]at Uu;simp only[cr,mA,or_self,if_false,or_true,true_or,or_false,false_or,if_true,reduceIte]at Uu;refine an func79 rfl ntmps79 results79 rfl 0 361550014853497117429835520396253725135 (by simp) (by simp) ?_;simp only[zX,simprocAttr,i64,ai re,iD,bD,p];refine aj Uu (by simp [ah,ah.go,ai,i64,bV,aM]) (by simp [ah,ah.go,ai,i64,bV,aM]) ?_;simp only[zX,simprocAttr,i64,ai re,iD,bD,p]
   repeat' (first
 |(with_reducible refine And.intro (by first|omega|exact⟨by omega,by omega⟩|(simp;done)) ?_)
 |(with_reducible first|refine kB (λhc=>?_) (λhc=>?_)|refine dM (λhc=>?_) (λhc=>?_)|refine dL (λhc=>?_) (λhc=>?_)|refine cX (λhc=>?_) (λhc=>?_)|refine cW (λhc=>?_) (λhc=>?_)|refine g8 (λhc=>?_) (λhc=>?_)|refine dG (λhc=>?_) (λhc=>?_))<;>simp only[zX,simprocAttr,i64,ai re,iD,bD,p,hc])
  all_goals
   rcases ahb re.neg with dA|dA;all_goals
    try (exfalso;rw[dA]at hc;exact absurd hc (by decide);done)
    try first
     |(refine congrArg bV (Eq.symm (Bool.eq_false_iff.2 λh=>?_))
       simp only[bK,cr,p,dA,mA,or_self,if_false,or_true,true_or,or_false,false_or,if_true,reduceIte,agb,decide_eq_true_eq,aga,af4,agz,agr,reduceCtorEq,age,false_and,and_false,true_and,and_true]at h;try omega
       done)
     |(refine congrArg bV (Eq.symm ?_)
       simp only[bK,cr,p,dA,mA,or_self,if_false,or_true,true_or,or_false,false_or,if_true,reduceIte,agb,decide_eq_true_eq,aga,af4,agz,agr,reduceCtorEq,age,false_and,and_false,true_and,and_true];try omega
       done)
def Re.whole (re:Re) (ak top:Int):Bool:=re.every λr=>bK r ak top
theorem HJ (ak top:Int) (ht:top<=1114111) (re:Re) (hf:re.bC=true):aO prog 48 [fv re,i64 ak,i64 top] (bV (re.whole ak top)):=by
 revert hf;refine Re.ind (Q:=λre=>re.bC=true->aO prog 48 [fv re,i64 ak,i64 top] (bV (re.whole ak top))) (λre ih hf=>?_) re;obtain⟨ie,hlen,rQ⟩:=Re.cA hf;have TI:=FG re hf ak top ht;rw[ai]at TI;simp only[i64,iD,bD]at TI;refine an func48 rfl ntmps48 results48 rfl 0 207 (by simp) (by simp) ?_;simp only[zX,simprocAttr,i64,ai re,iD,bD];refine aj TI (by simp [ah,ah.go,ai,i64,bV,aM]) (by simp [ah,ah.go,ai,i64,bV,aM]) ?_;cases mT:bK re ak top with
 |false =>
  simp only[zX,simprocAttr,i64,bV];rw[show re.whole ak top=false by
   rw[agP];intro h;unfold Re.whole at h;rw[Re.aB,mT]at h;exact absurd h.1 (by decide)]
 |true =>
  simp only[zX,simprocAttr,i64,bV];refine au (λn e s=>∃i:Nat,n=re.kids.length-i/\i<=re.kids.length/\e 1=i64 ak/\e 2=i64 top/\e 3=.rf 0 0 0 0/\e 7=i64 i/\(∀x∈re.kids.take i,x.whole ak top=true)/\s=[⟨0,true,8,[re.cells.map .d]⟩])
   ⟨_,_,_,br.refl,0,rfl,by omega,rfl,rfl,rfl,rfl,by simp,by simp [Re.ae re,iD,bD]⟩ ?_
  rintro n e s ⟨i,rfl,hi,h1,h2,h3,h7,hn,rfl⟩;rcases agi i re.kids.length with az|fI
  ·obtain⟨k,hk⟩:∃k,re.kids[i]?=some k:=⟨_,afP az⟩
   have hm:=afW hk;simp only[zX,simprocAttr,i64,Re.ae re,iD,bD,h1,h2,h3,h7,az,hk];refine aj (ih k hm (rQ k hm)) (by simp [ah,ah.go,ai,i64,bV,aM]) (by simp [ah,ah.go,ai,i64,bV,aM]) ?_;cases cU:k.whole ak top with
   |false =>
    simp only[zX,simprocAttr,i64,bV];rw[show re.whole ak top=false by
     rw[agP];intro h;unfold Re.whole at h;rw[Re.aB]at h;have:=h.2 k hm;unfold Re.whole at cU;rw[cU]at this;cases this]
   |true =>
    simp only[zX,simprocAttr,i64,bV,Re.ae re,iD,bD,h1,h2,h3,h7];refine⟨re.kids.length-(i+1),_,_,by omega,br.refl,i+1,rfl,az,?_,?_,?_,?_,?_,rfl⟩ <;> (try simp only[zU,gj,cQ,dx,eI,reduceIte])
    ·exact h1
    ·exact h2
    ·exact h3
    ·rw[bd _ (by omega)];rfl
    ·intro x hx;rcases bu hk hx with h|rfl
     ·exact hn x h
     ·exact cU
  ·have cV:i=re.kids.length:=by omega
   subst cV;simp only[zX,simprocAttr,i64,Re.ae re,iD,bD,h1,h2,h3,h7,agK];rw[show re.whole ak top=true from (Re.aB re).2 ⟨mT,λk hk=>hn k (by rw[agj];exact hk)⟩]
def gz (aN:Bool):Int:=if aN=true then 1114111 else 255
def cC (p:ic):Int :=
 if 256<p.re.size\/24<p.re.depth then 4 else if p.ak<0\/9<p.ak\/p.re.whole p.ak (gz p.aN)=false then 1 else 0
theorem oH (p:ic) (hf:p.re.bC=true) (hs:p.re.size<=1000000000):aO prog 25 [aZ p] (i64 (cC p)):=by
 have h1:=Le p.re hs;have h2:=Ha p.re hs;have h3:=HJ p.ak (gz p.aN) (by unfold gz;split <;> omega) p.re hf;unfold cC;rw[ai]at h1 h2 h3;cases p with
 |mk re ak aN =>
 simp only[i64,iD,bD]at h1 h2 h3;simp only at *;refine an func25 rfl ntmps25 results25 rfl 0 15 (by simp) (by simp) ?_;simp only[zX,simprocAttr,i64,aZ,Re.ae re,bV,iD,bD];refine aj h1 (by simp [ah,ah.go,ai,i64,bV,aM]) (by simp [ah,ah.go,ai,i64,bV,aM]) ?_;simp only[zX,simprocAttr,i64,aZ,bV,iD,bD];by_cases c1:(256:Int)<re.size
 ·simp only[zX,simprocAttr,c1];rw[be (by omega)]
 simp only[zX,simprocAttr,i64,aZ,bV,iD,bD,c1];refine aj h2 (by simp [ah,ah.go,ai,i64,bV,aM]) (by simp [ah,ah.go,ai,i64,bV,aM]) ?_;simp only[zX,simprocAttr,i64,aZ,bV,iD,bD];by_cases c2:(24:Int)<re.depth
 ·simp only[zX,simprocAttr,c2]
 rw[ap (by omega)];simp only[zX,simprocAttr,i64,aZ,bV,iD,bD,c2];cases aN;all_goals
  simp only[gz,if_true,if_false,reduceIte,reduceCtorEq,age]at h3 ⊢;simp only[zX,simprocAttr,i64,aZ,bV,iD,bD];by_cases c3:ak<0
  ·simp only[zX,simprocAttr,i64,aZ,bV,iD,bD,c3]
  by_cases c4:9<ak
  ·simp only[zX,simprocAttr,i64,aZ,bV,iD,bD,c3,c4,if_true,or_true,true_or]
  simp only[zX,simprocAttr,i64,aZ,bV,iD,bD,c3,c4];refine aj h3 (by simp [ah,ah.go,ai,i64,bV,aM]) (by simp [ah,ah.go,ai,i64,bV,aM]) ?_;first
   |(cases hw:re.whole ak 1114111 <;> (simp only[zX,simprocAttr,i64,bV]);done)
   |(cases hw:re.whole ak 255 <;> (simp only[zX,simprocAttr,i64,bV]);done)
end Go.Proofs.Ytfmdmlfhigocaaa
namespace Go.Proofs.Ytfmdmlfhigocaaa
open Go.VL Go.Proofs.Try
def av (x:Re):VL.Obj:=⟨0,true,8,[x.cells.map .d]⟩
end Go.Proofs.Ytfmdmlfhigocaaa
