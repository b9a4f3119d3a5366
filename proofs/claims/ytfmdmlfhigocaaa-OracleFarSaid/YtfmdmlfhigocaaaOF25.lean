/- A part of the proof (F12 F30 F22 F31 F34 F35 F36 F14 F23 F24). -/
import Derived.Test.YtfmdmlfhigocaaaOF13
import Derived.Test.YtfmdmlfhigocaaaOF16
import Derived.Test.YtfmdmlfhigocaaaOF21
import Derived.Test.YtfmdmlfhigocaaaOF24
set_option linter.unusedSimpArgs false
set_option linter.unusedVariables false
set_option maxRecDepth 100000
set_option maxHeartbeats 80000000
set_option linter.unusedSimpArgs false
set_option linter.unusedVariables false
namespace Go.Proofs.Ytfmdmlfhigocaaa
open Go.VL Go.Proofs.Try
structure jl where
 re:Re
 ai:Int
 aU:Bool
def bL (p:jl):V:=.ag (p.re.cells.map .d++[i64 p.ai,bV p.aU])
def jf (l:List Int) (bu most:Int):jl :=
 let x:=Mk.tree 5 ⟨l,0,bu,most,0⟩
 ⟨x.1,x.2.ai,false⟩
theorem J6 (ρ:List Nat) (m:Mk):aP ρ (bE m)=bE m:=rfl
theorem xT (re:Re) (l:List V):(re.cells.map V.d++l).take 8=re.cells.map V.d:=List.take_left' (by simp [Re.jb])
theorem y8 (re:Re) (l:List V) (n:Nat):(re.cells.map V.d++l).drop (n+8)=l.drop n:=by
 rw[Nat.add_comm,<- List.drop_drop,List.drop_left' (by simp [Re.jb])]
theorem Gv (l:List Int) (bu most:Int) (hl:∀x∈l,lA x) (h0:0<=most) (h1:most<=1000000):ba prog 33 [.d (ao l),i64 bu,i64 most] (bL (jf l bu most)):=by
 refine an func33 rfl ntmps33 results33 rfl 0 455 (by simp) (by simp) ?_
 simp only[zW,simprocAttr,i64]
 refine H5 1 (Ik 5 (by omega) (by decide) ⟨l,0,bu,most,0⟩ 0 (by omega) ⟨hl,by simp,by simp,by simpa using h0,h1,by simp,by simp⟩ (by decide)) rfl rfl rfl rfl (bj _ _) ?_
 rw[J6]
 have hR:jf l bu most=⟨(Mk.tree 5 ⟨l,0,bu,most,0⟩).1,(Mk.tree 5 ⟨l,0,bu,most,0⟩).2.ai,false⟩:=rfl
 rw[hR]
 generalize Mk.tree 5 ⟨l,0,bu,most,0⟩=R
 simp only[zW,simprocAttr,i64]
 refine ar mix [6] [] (by rfl) ?_
 simp only[zW,simprocAttr,i64,bE,xT,y8,List.length_append]
 simp only[zW,simprocAttr,Re.ae,bL,bV,i64]
end Go.Proofs.Ytfmdmlfhigocaaa
namespace Go.Proofs.Ytfmdmlfhigocaaa
open Go.VL Go.Proofs.Try
def lR (c:Int):VL.Obj:=⟨0,true,1,[[i64 c]]⟩
mutual
def Re.depth:Re->Int
 |.mk _ _ kids _ _ _ _ _=>Re.yR kids 0+1
def Re.yR:List Re->Int->Int
 |[],a=>a
 |k::l,a=>Re.yR l (max a k.depth)
end
def tg (l:List Int):Int:=l.foldl max 0
theorem Re.AP:∀(l:List Re) (a:Int),Re.yR l a=(l.map Re.depth).foldl max a
 |[],a=>by simp [Re.yR]
 |k::l,a=>by simp [Re.yR,Re.AP l]
theorem Re.pK (re:Re):re.depth=tg (re.kids.map Re.depth)+1:=by
 cases re;simp [Re.depth,Re.AP,Re.kids,tg]
theorem I6 (l:List Int) (k:Int):tg (l++[k])=max (tg l) k:=by simp [tg,List.foldl_append]
theorem lB {b:Int}:∀(l:List Int) (a:Int),a<=b->(∀x∈l,x<=b)->l.foldl max a<=b
 |[],a,h,_=>h
 |x::l,a,h,hl=>lB l (max a x) (by have:=hl x (by simp);omega) (fun y hy=>hl y (by simp [hy]))
theorem lH:∀(l:List Int) (a:Int),a<=l.foldl max a
 |[],a=>Int.le_refl _
 |x::l,a=>Int.le_trans (by omega) (lH l (max a x))
theorem Re.Du (re:Re):0<=re.depth/\re.depth<=re.size:=by
 refine Re.ind (Q:=fun re=>0<=re.depth/\re.depth<=re.size) (fun re ih=>?_) re
 rw[Re.pK,Re.size_eq]
 have h1:=lH (re.kids.map Re.depth) 0
 have h2:tg (re.kids.map Re.depth)<=(Re.cR re.kids:Nat):=lB _ _ (by omega) (fun x hx=>by
  obtain⟨k,hk,rfl⟩:=List.mem_map.1 hx
  have:=Re.vi hk
  have:=(ih k hk).2
  omega)
 unfold tg at *
 omega
theorem CV (re:Re) (hs:re.size<=1000000000):ba prog 47 [jW re] (i64 re.depth):=by
 revert hs
 refine Re.ind (Q:=fun re=>re.size<=1000000000->ba prog 47 [jW re] (i64 re.depth)) (fun re ih hs=>?_) re
 have hlen:=Re.sw re.kids
 have fo:=Re.size_eq re
 have hd:=Re.Du re
 rw[Re.pK]at hd ⊢
 refine an func47 rfl ntmps47 results47 rfl 0 31 (by simp) (by simp) ?_
 simp only[zW,simprocAttr,i64,aj re,iD,bD]
 refine ay (fun n e s=>∃i:Nat,n=re.kids.length-i/\i<=re.kids.length/\e 1=.rf 0 0 0 0/\e 3=i64 (tg ((re.kids.take i).map Re.depth))/\e 4=i64 i/\s=[⟨0,true,8,[re.cells.map .d]⟩])
  ⟨_,_,_,bI.refl,0,rfl,by omega,rfl,rfl,rfl,by rw[Re.ae re];rfl⟩ ?_
 rintro n e s ⟨i,rfl,hi,h1,h3,h4,rfl⟩
 rcases Nat.lt_or_ge i re.kids.length with az|ib
 ·obtain⟨k,hk⟩:∃k,re.kids[i]?=some k:=⟨_,List.getElem?_eq_getElem az⟩
  have hm:=List.mem_of_getElem? hk
  have MR:=Re.iv hm
  simp only[zW,simprocAttr,i64,Re.ae re,iD,bD,h1,h3,h4,az,hk]
  refine al (ih k hm (by omega)) (by simp [ah,ah.go,aj,i64,bV,bm]) (by simp [ah,ah.go,aj,i64,bV,bm]) ?_
  simp only[zW,simprocAttr,i64,Re.ae re,iD,bD,h1,h3,h4]
  refine⟨re.kids.length-(i+1),_,_,by omega,bI.refl,i+1,rfl,az,?_,?_,?_,rfl⟩ <;> (try simp only[zU,Nat.reduceBEq,Nat.reduceShiftRight,Nat.reduceMod,Nat.reduceEqDiff,reduceIte])
  ·exact h1
  ·rw[bt hk,List.map_append,List.map_cons,List.map_nil,I6]
  ·rw[br _ (by omega)];rfl
 ·have eQ:i=re.kids.length:=by omega
  subst eQ
  rw[List.take_length]at h3
  have w1:IntKind.i64.wrap (tg (re.kids.map Re.depth)+1)=tg (re.kids.map Re.depth)+1:=br _ (by omega)
  simp only[zW,simprocAttr,i64,Re.ae re,iD,bD,h1,h3,h4,Nat.lt_irrefl,w1]
  all_goals first|exact⟨rfl,rfl⟩|exact⟨rfl,trivial⟩|rfl|trivial|(rw[aj];rfl)
def cj (op:Int):Int×Int :=
 if op=2\/op=3 then (2,-1) else if op=4\/op=5\/op=7\/op=8\/op=9 then (1,1) else if op=10 then (2,2) else (0,0)
theorem GD (op:Int):ba prog 98 [i64 op] (.tu [i64 (cj op).1,i64 (cj op).2]):=by
 have sq:op=2\/op=3\/op=4\/op=5\/op=7\/op=8\/op=9\/op=10\/(¬op=2/\¬op=3/\¬op=4/\¬op=5/\¬op=7/\¬op=8/\¬op=9/\¬op=10):=by omega
 rcases sq with p|p|p|p|p|p|p|p|⟨p1,p2,p3,p4,p5,p6,p7,p8⟩
 all_goals
  first
   |(rw[p]
     refine an func98 rfl ntmps98 results98 rfl 0 317 (by simp) (by simp) ?_
     simp only[zW,simprocAttr,i64]
     all_goals first|exact⟨rfl,rfl⟩|exact⟨rfl,trivial⟩|rfl|trivial|(rw[aj];rfl))
   |(rw[show cj op=(0,0) by simp [cj,p1,p2,p3,p4,p5,p6,p7,p8]]
     refine an func98 rfl ntmps98 results98 rfl 0 317 (by simp) (by simp) ?_
     simp only[zW,simprocAttr,i64,p1,p2,p3,p4,p5,p6,p7,p8]
     all_goals first|exact⟨rfl,rfl⟩|exact⟨rfl,trivial⟩|rfl|trivial|(rw[aj];rfl))
def od (top:Int):Int->List (Int×Int)->Bool
 |_,[]=>true
 |p,s::l=>decide (0<=s.1/\s.1<=s.2/\s.2<=top/\p+1<s.1)&&od top s.2 l
def fW (l:List (Int×Int)) (top:Int):Bool:=decide (l.length<=64)&&od top (-2) l
def jH (l:List (Int×Int)):Nat->Int
 |0=>-2
 |i+1=>(l[i]?.map (·.2)).getD 0
theorem Ek (l:List (Int×Int)) (hl:l.length<=1000000000) (top:Int) (ht:top<=1114111):ba prog 99 [.d (.sl (l.map aV)),i64 top] (bV (fW l top)):=by
 refine an func99 rfl ntmps99 results99 rfl 0 51 (by simp) (by simp) ?_
 by_cases Rz:(64:Int)<l.length
 ·simp only[zX,simprocAttr,i64,Rz]
  have:¬l.length<=64:=by omega
  simp [fW,bV,this]
 have Pz:l.length<=64:=by omega
 have hR:fW l top=od top (-2) l:=by simp [fW,Pz]
 rw[hR]
 simp only[zX,simprocAttr,i64,Rz]
 refine ay (fun n e s=>∃i:Nat,n=l.length-i/\i<=l.length/\e 0=.d (.sl (l.map aV))/\e 1=i64 top/\e 5=i64 i/\s=[]/\od top (-2) l=od top (jH l i) (l.drop i)/\(0<i->0<=jH l i/\jH l i<=top))
  ⟨_,_,_,bI.refl,0,rfl,by omega,rfl,rfl,rfl,rfl,rfl,fun h=>absurd h (by omega)⟩ ?_
 rintro n e s ⟨i,rfl,hi,h0,h1,h5,rfl,mm,kU⟩
 rcases Nat.lt_or_ge i l.length with az|ib
 ·obtain⟨k,hk⟩:∃k,l[i]?=some k:=⟨_,List.getElem?_eq_getElem az⟩
  have hd:l.drop i=k::l.drop (i+1):=by
   rw[List.drop_eq_getElem_cons az]
   rw[List.getElem?_eq_getElem az]at hk
   simp only[Option.some.injEq]at hk
   rw[hk]
  rw[hd]at mm
  simp only[od]at mm
  have vK:jH l (i+1)=k.2:=by simp [jH,hk]
  simp only[zX,simprocAttr,i64,h0,h1,h5,az]
  refine ar mix [] [] (by rfl) ?_
  cases i with
  |zero =>
   have mm:od top (-2) l=(decide (0<=k.1/\k.1<=k.2/\k.2<=top/\-2+1<k.1)&&od top k.2 (l.drop (0+1))):=mm
   simp only[zX,simprocAttr,i64,h0,h1,h5,hk,aV,iD,Int.natCast_zero]
   repeat' (first
 |(with_reducible refine And.intro (by first|omega|exact⟨by omega,by omega⟩|(simp;done)) ?_)
 |(with_reducible refine jc (fun hc=>?_) (fun hc=>?_) <;> simp only[zX,simprocAttr,i64,h0,h1,h5,hk,aV,iD,Int.natCast_zero,hc])
 |(with_reducible refine dj (fun hc=>?_) (fun hc=>?_) <;> simp only[zX,simprocAttr,i64,h0,h1,h5,hk,aV,iD,Int.natCast_zero,hc])
 |(with_reducible refine di (fun hc=>?_) (fun hc=>?_) <;> simp only[zX,simprocAttr,i64,h0,h1,h5,hk,aV,iD,Int.natCast_zero,hc])
 |(with_reducible refine cF (fun hc=>?_) (fun hc=>?_) <;> simp only[zX,simprocAttr,i64,h0,h1,h5,hk,aV,iD,Int.natCast_zero,hc])
 |(with_reducible refine cE (fun hc=>?_) (fun hc=>?_) <;> simp only[zX,simprocAttr,i64,h0,h1,h5,hk,aV,iD,Int.natCast_zero,hc])
 |(with_reducible refine fL (fun hc=>?_) (fun hc=>?_) <;> simp only[zX,simprocAttr,i64,h0,h1,h5,hk,aV,iD,Int.natCast_zero,hc])
 |(with_reducible refine df (fun hc=>?_) (fun hc=>?_) <;> simp only[zX,simprocAttr,i64,h0,h1,h5,hk,aV,iD,Int.natCast_zero,hc]))
   any_goals (refine congrArg bV (Eq.symm ?_);rw[mm,show decide (0<=k.1/\k.1<=k.2/\k.2<=top/\-2+1<k.1)=false from decide_eq_false (by omega)];rfl)
   refine⟨l.length-1,_,_,by omega,bI.refl,1,rfl,az,?_,?_,?_,rfl,?_,?_⟩ <;> (try simp only[zU,Nat.reduceBEq,Nat.reduceShiftRight,Nat.reduceMod,Nat.reduceEqDiff,reduceIte])
   ·exact h0
   ·exact h1
   ·rw[br _ (by omega)];rfl
   ·rw[mm,vK,show decide (0<=k.1/\k.1<=k.2/\k.2<=top/\-2+1<k.1)=true from decide_eq_true (by omega)];rfl
   ·intro _;rw[vK];omega
  |succ j =>
   obtain⟨kp,BP⟩:∃k,l[j]?=some k:=⟨_,List.getElem?_eq_getElem (by omega:j<l.length)⟩
   have P8:jH l (j+1)=kp.2:=by simp [jH,BP]
   have kU:=kU (by omega)
   rw[P8]at kU mm
   have w1:IntKind.i64.wrap (((j+1:Nat):Int)-1)=(j:Int):=by rw[br _ (by omega)];omega
   have w2:IntKind.i64.wrap (kp.2+1)=kp.2+1:=br _ (by omega)
   have p0:(0:Int)<((j+1:Nat):Int):=by omega
   have q0:(0:Int)<=((j+1:Nat):Int):=by omega
   have q1:((j+1:Nat):Int)<l.length:=by omega
   have q2:(j:Int)<l.length:=by omega
   simp only[zX,simprocAttr,i64,h0,h1,h5,hk,aV,iD,BP,w1,w2,p0,q0,q1,q2]
   repeat' (first
 |(with_reducible refine And.intro (by first|omega|exact⟨by omega,by omega⟩|(simp;done)) ?_)
 |(with_reducible refine jc (fun hc=>?_) (fun hc=>?_) <;> simp only[zX,simprocAttr,i64,h0,h1,h5,hk,aV,iD,BP,w1,w2,p0,q0,q1,q2,hc])
 |(with_reducible refine dj (fun hc=>?_) (fun hc=>?_) <;> simp only[zX,simprocAttr,i64,h0,h1,h5,hk,aV,iD,BP,w1,w2,p0,q0,q1,q2,hc])
 |(with_reducible refine di (fun hc=>?_) (fun hc=>?_) <;> simp only[zX,simprocAttr,i64,h0,h1,h5,hk,aV,iD,BP,w1,w2,p0,q0,q1,q2,hc])
 |(with_reducible refine cF (fun hc=>?_) (fun hc=>?_) <;> simp only[zX,simprocAttr,i64,h0,h1,h5,hk,aV,iD,BP,w1,w2,p0,q0,q1,q2,hc])
 |(with_reducible refine cE (fun hc=>?_) (fun hc=>?_) <;> simp only[zX,simprocAttr,i64,h0,h1,h5,hk,aV,iD,BP,w1,w2,p0,q0,q1,q2,hc])
 |(with_reducible refine fL (fun hc=>?_) (fun hc=>?_) <;> simp only[zX,simprocAttr,i64,h0,h1,h5,hk,aV,iD,BP,w1,w2,p0,q0,q1,q2,hc])
 |(with_reducible refine df (fun hc=>?_) (fun hc=>?_) <;> simp only[zX,simprocAttr,i64,h0,h1,h5,hk,aV,iD,BP,w1,w2,p0,q0,q1,q2,hc]))
   any_goals (refine congrArg bV (Eq.symm ?_);rw[mm,show decide (0<=k.1/\k.1<=k.2/\k.2<=top/\kp.2+1<k.1)=false from decide_eq_false (by omega)];rfl)
   refine⟨l.length-(j+1+1),_,_,by omega,bI.refl,j+1+1,rfl,az,?_,?_,?_,rfl,?_,?_⟩ <;> (try simp only[zU,Nat.reduceBEq,Nat.reduceShiftRight,Nat.reduceMod,Nat.reduceEqDiff,reduceIte])
   ·exact h0
   ·exact h1
   ·rw[br _ (by omega)];rfl
   ·rw[mm,vK,show decide (0<=k.1/\k.1<=k.2/\k.2<=top/\kp.2+1<k.1)=true from decide_eq_true (by omega)];rfl
   ·intro _;rw[vK];omega
 ·have eQ:i=l.length:=by omega
  subst eQ
  simp only[zX,simprocAttr,i64,h0,h1,h5,Nat.lt_irrefl]
  rw[mm]
  simp [od,bV]
def bG (re:Re) (ai top:Int):Bool :=
 decide (0<=re.op/\re.op<=11/\(cj re.op).1<=re.kids.length/\((cj re.op).2<0\/(re.kids.length:Int)<=(cj re.op).2)) &&
 ((if re.op=1 then fW re.set top else decide (re.set.length=0)) &&
 ((if re.op=4 then decide (0<=re.mn/\re.mn<=32/\-1<=re.mx/\re.mx≠0/\re.mx<=32/\(0<re.mx->re.mn<=re.mx)/\0<=re.mode/\re.mode<=2) else decide (re.mn=0/\re.mx=0/\re.mode=0)) &&
 ((if re.op=5\/re.op=6\/re.op=10 then decide (1<=re.n/\re.n<=ai) else if re.op=11 then decide (0<=re.n/\re.n<=5) else decide (re.n=0)) &&
 (!re.neg||decide (re.op=7\/re.op=8)))))
theorem BD (re:Re) (hf:re.dG=true) (ai top:Int) (ht:top<=1114111):ba prog 79 [jW re,i64 ai,i64 top] (bV (bG re ai top)):=by
 obtain⟨pq,hlen,FK⟩:=Re.fr hf
 have mm:=Ek re.set pq top ht
 have OX:=GD re.op
 by_cases ho:re.op<0\/11<re.op
 ·rw[show bG re ai top=false by simp only[bG];rw[decide_eq_false (by omega)];rfl]
  have KM:re.op<0\/(¬re.op<0/\11<re.op):=by omega
  refine an func79 rfl ntmps79 results79 rfl 0 361550014853497117429835520396253725135 (by simp) (by simp) ?_
  simp only[zX,simprocAttr,i64,aj re,iD,bD]
  refine al OX (by simp [ah,ah.go,aj,i64,bV,bm]) (by simp [ah,ah.go,aj,i64,bV,bm]) ?_
  rcases KM with h1|⟨h1,h2⟩
  ·simp only[zX,simprocAttr,i64,aj re,iD,bD,h1]
   rfl
  ·simp only[zX,simprocAttr,i64,aj re,iD,bD,h1,h2]
   rfl
 ·have hc:re.op=0\/re.op=1\/re.op=2\/re.op=3\/re.op=4\/re.op=5\/re.op=6\/re.op=7\/re.op=8\/re.op=9\/re.op=10\/re.op=11:=by omega
  clear ho
  rcases hc with p|p|p|p|p|p|p|p|p|p|p|p
  case inr.inl =>
   rw[p]at OX
   simp only[cj,Int.reduceEq,or_self,if_false,or_true,true_or,or_false,false_or,if_true,reduceIte]at OX
   generalize hv:fW re.set top=sv at mm
   cases sv
   all_goals
    refine an func79 rfl ntmps79 results79 rfl 0 361550014853497117429835520396253725135 (by simp) (by simp) ?_
    simp only[zX,simprocAttr,i64,aj re,iD,bD,p]
    refine al OX (by simp [ah,ah.go,aj,i64,bV,bm]) (by simp [ah,ah.go,aj,i64,bV,bm]) ?_
    simp only[zX,simprocAttr,i64,aj re,iD,bD,p]
    repeat' (first
 |(with_reducible refine And.intro (by first|omega|exact⟨by omega,by omega⟩|(simp;done)) ?_)
 |(with_reducible refine jc (fun hc=>?_) (fun hc=>?_) <;> simp only[zX,simprocAttr,i64,aj re,iD,bD,p,hc])
 |(with_reducible refine dj (fun hc=>?_) (fun hc=>?_) <;> simp only[zX,simprocAttr,i64,aj re,iD,bD,p,hc])
 |(with_reducible refine di (fun hc=>?_) (fun hc=>?_) <;> simp only[zX,simprocAttr,i64,aj re,iD,bD,p,hc])
 |(with_reducible refine cF (fun hc=>?_) (fun hc=>?_) <;> simp only[zX,simprocAttr,i64,aj re,iD,bD,p,hc])
 |(with_reducible refine cE (fun hc=>?_) (fun hc=>?_) <;> simp only[zX,simprocAttr,i64,aj re,iD,bD,p,hc])
 |(with_reducible refine fL (fun hc=>?_) (fun hc=>?_) <;> simp only[zX,simprocAttr,i64,aj re,iD,bD,p,hc])
 |(with_reducible refine df (fun hc=>?_) (fun hc=>?_) <;> simp only[zX,simprocAttr,i64,aj re,iD,bD,p,hc]))
   any_goals
    refine al mm (by simp [ah,ah.go,aj,i64,bV,bm]) (by simp [ah,ah.go,aj,i64,bV,bm]) ?_
    simp only[zX,simprocAttr,i64,aj re,iD,bD,p,bV]
   any_goals
    repeat' (first
 |(with_reducible refine And.intro (by first|omega|exact⟨by omega,by omega⟩|(simp;done)) ?_)
 |(with_reducible refine jc (fun hc=>?_) (fun hc=>?_) <;> simp only[zX,simprocAttr,i64,aj re,iD,bD,p,bV,hc])
 |(with_reducible refine dj (fun hc=>?_) (fun hc=>?_) <;> simp only[zX,simprocAttr,i64,aj re,iD,bD,p,bV,hc])
 |(with_reducible refine di (fun hc=>?_) (fun hc=>?_) <;> simp only[zX,simprocAttr,i64,aj re,iD,bD,p,bV,hc])
 |(with_reducible refine cF (fun hc=>?_) (fun hc=>?_) <;> simp only[zX,simprocAttr,i64,aj re,iD,bD,p,bV,hc])
 |(with_reducible refine cE (fun hc=>?_) (fun hc=>?_) <;> simp only[zX,simprocAttr,i64,aj re,iD,bD,p,bV,hc])
 |(with_reducible refine fL (fun hc=>?_) (fun hc=>?_) <;> simp only[zX,simprocAttr,i64,aj re,iD,bD,p,bV,hc])
 |(with_reducible refine df (fun hc=>?_) (fun hc=>?_) <;> simp only[zX,simprocAttr,i64,aj re,iD,bD,p,bV,hc]))
   all_goals
    rcases Bool.eq_false_or_eq_true re.neg with dJ|dJ
    all_goals
     try (exfalso;rw[dJ]at hc;exact absurd hc (by decide);done)
     try first
      |(first|refine congrArg bV (Eq.symm (Bool.eq_false_iff.2 fun h=>?_))|refine Eq.symm (Bool.eq_false_iff.2 fun h=>?_)
        simp only[bG,cj,p,dJ,hv,Int.reduceEq,or_self,if_false,or_true,true_or,or_false,false_or,if_true,reduceIte,Bool.and_eq_true,decide_eq_true_eq,Bool.not_true,Bool.not_false,Bool.true_or,Bool.false_or,reduceCtorEq,Bool.false_eq_true,false_and,and_false,true_and,and_true]at h
        try omega
        done)
      |(first|refine congrArg bV (Eq.symm ?_)|refine Eq.symm ?_
        simp only[bG,cj,p,dJ,hv,Int.reduceEq,or_self,if_false,or_true,true_or,or_false,false_or,if_true,reduceIte,Bool.and_eq_true,decide_eq_true_eq,Bool.not_true,Bool.not_false,Bool.true_or,Bool.false_or,reduceCtorEq,Bool.false_eq_true,false_and,and_false,true_and,and_true]
        try omega
        done)
  all_goals
   rw[p]at OX
   simp only[cj,Int.reduceEq,or_self,if_false,or_true,true_or,or_false,false_or,if_true,reduceIte]at OX
   refine an func79 rfl ntmps79 results79 rfl 0 361550014853497117429835520396253725135 (by simp) (by simp) ?_
   simp only[zX,simprocAttr,i64,aj re,iD,bD,p]
   refine al OX (by simp [ah,ah.go,aj,i64,bV,bm]) (by simp [ah,ah.go,aj,i64,bV,bm]) ?_
   simp only[zX,simprocAttr,i64,aj re,iD,bD,p]
   repeat' (first
 |(with_reducible refine And.intro (by first|omega|exact⟨by omega,by omega⟩|(simp;done)) ?_)
 |(with_reducible refine jc (fun hc=>?_) (fun hc=>?_) <;> simp only[zX,simprocAttr,i64,aj re,iD,bD,p,hc])
 |(with_reducible refine dj (fun hc=>?_) (fun hc=>?_) <;> simp only[zX,simprocAttr,i64,aj re,iD,bD,p,hc])
 |(with_reducible refine di (fun hc=>?_) (fun hc=>?_) <;> simp only[zX,simprocAttr,i64,aj re,iD,bD,p,hc])
 |(with_reducible refine cF (fun hc=>?_) (fun hc=>?_) <;> simp only[zX,simprocAttr,i64,aj re,iD,bD,p,hc])
 |(with_reducible refine cE (fun hc=>?_) (fun hc=>?_) <;> simp only[zX,simprocAttr,i64,aj re,iD,bD,p,hc])
 |(with_reducible refine fL (fun hc=>?_) (fun hc=>?_) <;> simp only[zX,simprocAttr,i64,aj re,iD,bD,p,hc])
 |(with_reducible refine df (fun hc=>?_) (fun hc=>?_) <;> simp only[zX,simprocAttr,i64,aj re,iD,bD,p,hc]))
  all_goals
   rcases Bool.eq_false_or_eq_true re.neg with dJ|dJ
   all_goals
    try (exfalso;rw[dJ]at hc;exact absurd hc (by decide);done)
    try first
     |(refine congrArg bV (Eq.symm (Bool.eq_false_iff.2 fun h=>?_))
       simp only[bG,cj,p,dJ,Int.reduceEq,or_self,if_false,or_true,true_or,or_false,false_or,if_true,reduceIte,Bool.and_eq_true,decide_eq_true_eq,Bool.not_true,Bool.not_false,Bool.true_or,Bool.false_or,reduceCtorEq,Bool.false_eq_true,false_and,and_false,true_and,and_true]at h
       try omega
       done)
     |(refine congrArg bV (Eq.symm ?_)
       simp only[bG,cj,p,dJ,Int.reduceEq,or_self,if_false,or_true,true_or,or_false,false_or,if_true,reduceIte,Bool.and_eq_true,decide_eq_true_eq,Bool.not_true,Bool.not_false,Bool.true_or,Bool.false_or,reduceCtorEq,Bool.false_eq_true,false_and,and_false,true_and,and_true]
       try omega
       done)
def Re.whole (re:Re) (ai top:Int):Bool:=re.every fun r=>bG r ai top
theorem DA (ai top:Int) (ht:top<=1114111) (re:Re) (hf:re.dG=true):ba prog 48 [jW re,i64 ai,i64 top] (bV (re.whole ai top)):=by
 revert hf
 refine Re.ind (Q:=fun re=>re.dG=true->ba prog 48 [jW re,i64 ai,i64 top] (bV (re.whole ai top))) (fun re ih hf=>?_) re
 obtain⟨pq,hlen,FK⟩:=Re.fr hf
 have Od:=BD re hf ai top ht
 rw[aj]at Od
 simp only[i64,iD,bD]at Od
 refine an func48 rfl ntmps48 results48 rfl 0 207 (by simp) (by simp) ?_
 simp only[zX,simprocAttr,i64,aj re,iD,bD]
 refine al Od (by simp [ah,ah.go,aj,i64,bV,bm]) (by simp [ah,ah.go,aj,i64,bV,bm]) ?_
 cases lM:bG re ai top with
 |false =>
  simp only[zX,simprocAttr,i64,bV]
  rw[show re.whole ai top=false by
   rw[Bool.eq_false_iff];intro h;unfold Re.whole at h;rw[Re.aS,lM]at h;exact absurd h.1 (by decide)]
 |true =>
  simp only[zX,simprocAttr,i64,bV]
  refine ay (fun n e s=>∃i:Nat,n=re.kids.length-i/\i<=re.kids.length/\e 1=i64 ai/\e 2=i64 top/\e 3=.rf 0 0 0 0/\e 7=i64 i/\(∀x∈re.kids.take i,x.whole ai top=true)/\s=[⟨0,true,8,[re.cells.map .d]⟩])
   ⟨_,_,_,bI.refl,0,rfl,by omega,rfl,rfl,rfl,rfl,by simp,by simp [Re.ae re,iD,bD]⟩ ?_
  rintro n e s ⟨i,rfl,hi,h1,h2,h3,h7,hn,rfl⟩
  rcases Nat.lt_or_ge i re.kids.length with az|ib
  ·obtain⟨k,hk⟩:∃k,re.kids[i]?=some k:=⟨_,List.getElem?_eq_getElem az⟩
   have hm:=List.mem_of_getElem? hk
   simp only[zX,simprocAttr,i64,Re.ae re,iD,bD,h1,h2,h3,h7,az,hk]
   refine al (ih k hm (FK k hm)) (by simp [ah,ah.go,aj,i64,bV,bm]) (by simp [ah,ah.go,aj,i64,bV,bm]) ?_
   cases eN:k.whole ai top with
   |false =>
    simp only[zX,simprocAttr,i64,bV]
    rw[show re.whole ai top=false by
     rw[Bool.eq_false_iff];intro h;unfold Re.whole at h;rw[Re.aS]at h;have:=h.2 k hm;unfold Re.whole at eN;rw[eN]at this;cases this]
   |true =>
    simp only[zX,simprocAttr,i64,bV,Re.ae re,iD,bD,h1,h2,h3,h7]
    refine⟨re.kids.length-(i+1),_,_,by omega,bI.refl,i+1,rfl,az,?_,?_,?_,?_,?_,rfl⟩ <;> (try simp only[zU,Nat.reduceBEq,Nat.reduceShiftRight,Nat.reduceMod,Nat.reduceEqDiff,reduceIte])
    ·exact h1
    ·exact h2
    ·exact h3
    ·rw[br _ (by omega)];rfl
    ·intro x hx
     rcases b6 hk hx with h|rfl
     ·exact hn x h
     ·exact eN
  ·have eQ:i=re.kids.length:=by omega
   subst eQ
   simp only[zX,simprocAttr,i64,Re.ae re,iD,bD,h1,h2,h3,h7,Nat.lt_irrefl]
   rw[show re.whole ai top=true from (Re.aS re).2 ⟨lM,fun k hk=>hn k (by rw[List.take_length];exact hk)⟩]
def fB (aU:Bool):Int:=if aU=true then 1114111 else 255
def dQ (p:jl):Int :=
 if 256<p.re.size\/24<p.re.depth then 4 else if p.ai<0\/9<p.ai\/p.re.whole p.ai (fB p.aU)=false then 1 else 0
theorem CU (p:jl) (hf:p.re.dG=true) (hs:p.re.size<=1000000000):ba prog 25 [bL p] (i64 (dQ p)):=by
 have h1:=GW p.re hs
 have h2:=CV p.re hs
 have h3:=DA p.ai (fB p.aU) (by unfold fB;split <;> omega) p.re hf
 unfold dQ
 rw[aj]at h1 h2 h3
 cases p with
 |mk re ai aU =>
 simp only[i64,iD,bD]at h1 h2 h3
 simp only at *
 refine an func25 rfl ntmps25 results25 rfl 0 15 (by simp) (by simp) ?_
 simp only[zX,simprocAttr,i64,bL,Re.ae re,bV,iD,bD]
 refine al h1 (by simp [ah,ah.go,aj,i64,bV,bm]) (by simp [ah,ah.go,aj,i64,bV,bm]) ?_
 simp only[zX,simprocAttr,i64,bL,bV,iD,bD]
 by_cases c1:(256:Int)<re.size
 ·simp only[zX,simprocAttr,c1]
  rw[if_pos (by omega)]
 simp only[zX,simprocAttr,i64,bL,bV,iD,bD,c1]
 refine al h2 (by simp [ah,ah.go,aj,i64,bV,bm]) (by simp [ah,ah.go,aj,i64,bV,bm]) ?_
 simp only[zX,simprocAttr,i64,bL,bV,iD,bD]
 by_cases c2:(24:Int)<re.depth
 ·simp only[zX,simprocAttr,c2]
 rw[if_neg (by omega)]
 simp only[zX,simprocAttr,i64,bL,bV,iD,bD,c2]
 cases aU
 all_goals
  simp only[fB,if_true,if_false,reduceIte,reduceCtorEq,Bool.false_eq_true]at h3 ⊢
  simp only[zX,simprocAttr,i64,bL,bV,iD,bD]
  by_cases c3:ai<0
  ·simp only[zX,simprocAttr,i64,bL,bV,iD,bD,c3]
  by_cases c4:9<ai
  ·simp only[zX,simprocAttr,i64,bL,bV,iD,bD,c3,c4,if_true,or_true,true_or]
  simp only[zX,simprocAttr,i64,bL,bV,iD,bD,c3,c4]
  refine al h3 (by simp [ah,ah.go,aj,i64,bV,bm]) (by simp [ah,ah.go,aj,i64,bV,bm]) ?_
  first
   |(cases hw:re.whole ai 1114111 <;> (simp only[zX,simprocAttr,i64,bV]);done)
   |(cases hw:re.whole ai 255 <;> (simp only[zX,simprocAttr,i64,bV]);done)
end Go.Proofs.Ytfmdmlfhigocaaa
namespace Go.Proofs.Ytfmdmlfhigocaaa
open Go.VL Go.Proofs.Try
def aF (x:Re):VL.Obj:=⟨0,true,8,[x.cells.map .d]⟩
end Go.Proofs.Ytfmdmlfhigocaaa
