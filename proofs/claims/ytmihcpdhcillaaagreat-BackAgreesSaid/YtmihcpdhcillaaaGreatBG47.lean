/- A part of the proof (G41 G49). -/
import Derived.Test.YtmihcpdhcillaaaGreatBG3
import Derived.Test.YtmihcpdhcillaaaGreatBG35
import Derived.Test.YtmihcpdhcillaaaGreatBG46
set_option linter.unusedSimpArgs false
set_option linter.unusedVariables false
set_option maxRecDepth 100000
set_option maxHeartbeats 80000000
namespace Go.Proofs.YtmihcpdhcillaaaGreat
open Go.VL Go.Proofs.Tryz
def pW (re:Re) (v:V):VL.Obj:=⟨0,true,8,[[i64 re.op,.d (.sl (re.set.map aT)),v,i64 re.mn,i64 re.mx,i64 re.mode,i64 re.n,bV re.neg]]⟩
def u5:VL.Obj:=⟨0,true,8,[[i64 0,.fu [],.fu [],i64 0,i64 0,i64 0,i64 0,bV false]]⟩
theorem G5 (re:Re) (hs:re.fA=true):br prog 15 [lk re] (lk re):=by
 revert hs
 refine Re.ind (Q:=fun re=>re.fA=true→br prog 15 [lk re] (lk re)) (fun re ih hs=>?_) re
 obtain⟨pf,hlen,J4⟩:=Re.gR hs
 refine aw func15 rfl ntmps15 results15 rfl 0 57391 (by simp) (by simp) ?_
 simp only[zW,Nat.reduceShiftRight,Nat.reduceMod,Nat.reduceLT,Nat.reduceMul,Nat.reduceSub,Int.reduceToNat,Int.reduceNeg,Int.reduceLT,Int.reduceLE,Int.reduceEq,Nat.reduceEqDiff,Nat.reduceAdd,Nat.reduceLeDiff,reduceIte,reduceCtorEq,Nat.reduceBEq,i64,ay re,iD,bD]
 refine aD (yZ re.set pf) (by simp [ao,ao.go,ay,i64,bV,bT]) (by simp [ao,ao.go,ay,i64,bV,bT]) ?_
 simp only[zW,Nat.reduceShiftRight,Nat.reduceMod,Nat.reduceLT,Nat.reduceMul,Nat.reduceSub,Int.reduceToNat,Int.reduceNeg,Int.reduceLT,Int.reduceLE,Int.reduceEq,Nat.reduceEqDiff,Nat.reduceAdd,Nat.reduceLeDiff,reduceIte,reduceCtorEq,Nat.reduceBEq,i64,iD,bD]
 refine aX (fun n e s=>∃i:Nat,n=re.kids.length-i∧i≤re.kids.length∧e 1=.rf 0 0 0 0∧e 2=.rf 1 0 0 0∧e 13=.d (.sl (re.kids.map Re.cells))∧e 14=i64 re.kids.length∧e 15=i64 i ∧
   ((i=0∧s=[pW re (.fu []),u5])∨∃g X,cU 4 X=true∧s=[pW re (.so 3 g 0 i),u5,X,⟨g,true,8,((re.kids.take i).map Re.cells).map fun c=>c.map V.d⟩]))
  ⟨_,_,_,dw.refl,0,rfl,by omega,rfl,rfl,rfl,rfl,rfl,.inl ⟨rfl,rfl⟩⟩ ?_
 rintro n e s ⟨i,rfl,hi,h1,h2,fh,eV,jB,ky⟩
 rcases Xw i re.kids.length with aS|lW
 ·obtain⟨k,hk⟩:∃k,re.kids[i]?=some k:=⟨_,WZ aS⟩
  have hm:=W6 hk
  have Ns:=J4 k hm
  rcases ky with ⟨rfl,rfl⟩|⟨g,X,hX,rfl⟩
  ·simp only[zW,Nat.reduceShiftRight,Nat.reduceMod,Nat.reduceLT,Nat.reduceMul,Nat.reduceSub,Int.reduceToNat,Int.reduceNeg,Int.reduceLT,Int.reduceLE,Int.reduceEq,Nat.reduceEqDiff,Nat.reduceAdd,Nat.reduceLeDiff,reduceIte,reduceCtorEq,Nat.reduceBEq,h1,h2,fh,eV,jB,i64,bV,aS,hk,pW,u5]
   refine aq mix [5,7] [] (by rfl) ?_
   simp only[zW,Nat.reduceShiftRight,Nat.reduceMod,Nat.reduceLT,Nat.reduceMul,Nat.reduceSub,Int.reduceToNat,Int.reduceNeg,Int.reduceLT,Int.reduceLE,Int.reduceEq,Nat.reduceEqDiff,Nat.reduceAdd,Nat.reduceLeDiff,reduceIte,reduceCtorEq,Nat.reduceBEq,h1,h2,fh,eV,jB,i64,bV]
   refine cP (ih k hm Ns) (by simp [ao,ao.go,ay,i64,bV,bT]) (by simp [ao,ao.go,ay,i64,bV,bT]) ?_
   simp only[zW,Nat.reduceShiftRight,Nat.reduceMod,Nat.reduceLT,Nat.reduceMul,Nat.reduceSub,Int.reduceToNat,Int.reduceNeg,Int.reduceLT,Int.reduceLE,Int.reduceEq,Nat.reduceEqDiff,Nat.reduceAdd,Nat.reduceLeDiff,reduceIte,reduceCtorEq,Nat.reduceBEq,h1,h2,fh,eV,jB,i64,bV]
   refine⟨fun x hx=>by rw[List.mem_singleton.1 hx];simp [Re.gm],by simp,re.kids.length-1,_,_,by omega,dw.refl,1,rfl,by omega,?_,?_,?_,?_,?_,.inr ⟨0,_,?_,by rw[dZ hk];rfl⟩⟩ <;> (try simp only[zU,Nat.reduceBEq,Nat.reduceShiftRight,Nat.reduceMod,Nat.reduceEqDiff,reduceIte])
   ·exact h1
   ·exact h2
   ·exact fh
   ·exact eV
   ·rw[bU _ (by omega)];rfl
   ·simp [ao]
  ·simp only[zW,Nat.reduceShiftRight,Nat.reduceMod,Nat.reduceLT,Nat.reduceMul,Nat.reduceSub,Int.reduceToNat,Int.reduceNeg,Int.reduceLT,Int.reduceLE,Int.reduceEq,Nat.reduceEqDiff,Nat.reduceAdd,Nat.reduceLeDiff,reduceIte,reduceCtorEq,Nat.reduceBEq,h1,h2,fh,eV,jB,i64,bV,aS,hk,pW,u5]
   refine aq mix [5,7] [] (by rfl) ?_
   simp only[zW,Nat.reduceShiftRight,Nat.reduceMod,Nat.reduceLT,Nat.reduceMul,Nat.reduceSub,Int.reduceToNat,Int.reduceNeg,Int.reduceLT,Int.reduceLE,Int.reduceEq,Nat.reduceEqDiff,Nat.reduceAdd,Nat.reduceLeDiff,reduceIte,reduceCtorEq,Nat.reduceBEq,h1,h2,fh,eV,jB,i64,bV]
   refine cP (ih k hm Ns) (by simp [ao,ao.go,ay,i64,bV,bT]) (by simp [ao,ao.go,ay,i64,bV,bT]) ?_
   simp only[zW,Nat.reduceShiftRight,Nat.reduceMod,Nat.reduceLT,Nat.reduceMul,Nat.reduceSub,Int.reduceToNat,Int.reduceNeg,Int.reduceLT,Int.reduceLE,Int.reduceEq,Nat.reduceEqDiff,Nat.reduceAdd,Nat.reduceLeDiff,reduceIte,reduceCtorEq,Nat.reduceBEq,h1,h2,fh,eV,jB,i64,bV]
   have TV:((((re.kids.take i).map Re.cells).map fun c=>c.map V.d).take i)=((re.kids.take i).map Re.cells).map fun c=>c.map V.d:=Xv (by simp;omega)
   refine⟨fun x hx=>by rw[List.mem_singleton.1 hx];simp [Re.gm],⟨by simp;omega,by omega⟩,re.kids.length-(i+1),_,_,by omega,dw.cut 4 (by omega) rfl ?_ [1,2,13,14,15] ?_,i+1,rfl,by omega,?_,?_,?_,?_,?_,.inr ⟨g+1,X,hX,?_⟩⟩ <;> (try simp only[zU,Nat.reduceBEq,Nat.reduceShiftRight,Nat.reduceMod,Nat.reduceEqDiff,reduceIte])
   ·rw[TV]
    simp only[cU]at hX
    simp [cU,ao,hX]
    intro x hx y hy
    obtain⟨r,_,rfl⟩:=List.mem_map.1 (List.mem_of_mem_take hx)
    obtain⟨d,_,rfl⟩:=List.mem_map.1 hy
    rfl
   ·simp [bW,ba,ao,h1,h2,fh,eV,i64]
   ·exact h1
   ·exact h2
   ·exact fh
   ·exact eV
   ·rw[bU _ (by omega)];rfl
   ·rw[dZ hk]
    simp [List.take_take]
 ·have iQ:i=re.kids.length:=by omega
  subst iQ
  rcases ky with ⟨h0,rfl⟩|⟨g,X,hX,rfl⟩
  ·simp only[zW,Nat.reduceShiftRight,Nat.reduceMod,Nat.reduceLT,Nat.reduceMul,Nat.reduceSub,Int.reduceToNat,Int.reduceNeg,Int.reduceLT,Int.reduceLE,Int.reduceEq,Nat.reduceEqDiff,Nat.reduceAdd,Nat.reduceLeDiff,reduceIte,reduceCtorEq,Nat.reduceBEq,h1,h2,fh,eV,jB,i64,bV,XP,pW,u5]
   have:re.kids=[]:=Xb h0
   rw[this]
   rfl
  ·simp only[zW,Nat.reduceShiftRight,Nat.reduceMod,Nat.reduceLT,Nat.reduceMul,Nat.reduceSub,Int.reduceToNat,Int.reduceNeg,Int.reduceLT,Int.reduceLE,Int.reduceEq,Nat.reduceEqDiff,Nat.reduceAdd,Nat.reduceLeDiff,reduceIte,reduceCtorEq,Nat.reduceBEq,h1,h2,fh,eV,jB,i64,bV,XP,pW,u5]
   rw[XA,nz 7 0 _ _ _ (by simp),if_pos (by omega)]
   rfl
def Bo (p:fj):VL.Obj:=⟨0,true,19,[[.d (iD p.re.op),.d (.sl (p.re.set.map aT)),.d (.sl (p.re.kids.map Re.cells)),.d (iD p.re.mn),.d (iD p.re.mx),.d (iD p.re.mode),.d (iD p.re.n),.d (bD p.re.neg),i64 p.ak,bV p.bk,
 .fu [],.fu [],.fu [],i64 0,i64 0,i64 0,i64 0,bV false,bV false]]⟩
theorem RX (p:fj) (hf:p.re.fA=true) (hv:df p≠0):br prog 5 [cN p] (.tu [.d (.sc (.pointer none)),i64 (df p)]):=by
 have h1:=wX p hf
 generalize df p=v at *
 cases p with
 |mk re ak bk =>
 simp only[jy,Re.ae re,WU,WV,WR,WS,i64,iD,bD,bV]at h1
 refine aw func5 rfl ntmps5 results5 rfl 0 31 (by simp) (by simp) ?_
 simp only[zX,Nat.reduceShiftRight,Nat.reduceMod,Nat.reduceLT,Nat.reduceMul,Nat.reduceSub,Int.reduceToNat,Int.reduceNeg,Int.reduceLT,Int.reduceLE,Int.reduceEq,Nat.reduceEqDiff,Nat.reduceAdd,Nat.reduceLeDiff,reduceIte,reduceCtorEq,Nat.reduceBEq,i64,cN,Re.ae,bV,iD,bD]
 refine aD h1 rfl rfl ?_
 simp only[zX,Nat.reduceShiftRight,Nat.reduceMod,Nat.reduceLT,Nat.reduceMul,Nat.reduceSub,Int.reduceToNat,Int.reduceNeg,Int.reduceLT,Int.reduceLE,Int.reduceEq,Nat.reduceEqDiff,Nat.reduceAdd,Nat.reduceLeDiff,reduceIte,reduceCtorEq,Nat.reduceBEq,i64,cN,Re.ae,bV,iD,bD,hv,ne_eq,not_false_eq_true]
theorem MR (p:fj) (hf:p.re.fA=true) (hv:df p=0):av prog 5 [cN p] [] fun v s=>v=.tu [.rf 0 0 0 0,i64 0]∧s=[Bo p]:=by
 have h1:=wX p hf
 rw[hv]at h1
 have h2:=G5 p.re hf
 cases p with
 |mk re ak bk =>
 simp only[jy,Re.ae re,WU,WV,WR,WS,i64,iD,bD,bV]at h1
 simp only[ay re,iD,bD]at h2
 refine Em func5 rfl ntmps5 results5 rfl 0 31 (by simp) (by simp) ?_
 simp only[zX,Nat.reduceShiftRight,Nat.reduceMod,Nat.reduceLT,Nat.reduceMul,Nat.reduceSub,Int.reduceToNat,Int.reduceNeg,Int.reduceLT,Int.reduceLE,Int.reduceEq,Nat.reduceEqDiff,Nat.reduceAdd,Nat.reduceLeDiff,reduceIte,reduceCtorEq,Nat.reduceBEq,i64,cN,Re.ae,bV,iD,bD]
 refine aD h1 rfl rfl ?_
 simp only[zX,Nat.reduceShiftRight,Nat.reduceMod,Nat.reduceLT,Nat.reduceMul,Nat.reduceSub,Int.reduceToNat,Int.reduceNeg,Int.reduceLT,Int.reduceLE,Int.reduceEq,Nat.reduceEqDiff,Nat.reduceAdd,Nat.reduceLeDiff,reduceIte,reduceCtorEq,Nat.reduceBEq,i64,cN,Re.ae,bV,iD,bD,ne_eq,not_true_eq_false]
 refine aD h2 rfl rfl ?_
 simp only[zX,Nat.reduceShiftRight,Nat.reduceMod,Nat.reduceLT,Nat.reduceMul,Nat.reduceSub,Int.reduceToNat,Int.reduceNeg,Int.reduceLT,Int.reduceLE,Int.reduceEq,Nat.reduceEqDiff,Nat.reduceAdd,Nat.reduceLeDiff,reduceIte,reduceCtorEq,Nat.reduceBEq,i64,cN,Re.ae,bV,iD,bD,Mh,GN]
 exact⟨[1],by decide,rfl,rfl⟩
end Go.Proofs.YtmihcpdhcillaaaGreat
