/- A part of the proof (G41 G49). -/
import Derived.Test.YtphfjhaffbfpfaaPM3
import Derived.Test.YtphfjhaffbfpfaaPM27
import Derived.Test.YtphfjhaffbfpfaaPM46
set_option linter.all false
set_option maxRecDepth 100000
set_option maxHeartbeats 80000000
namespace Go.Proofs.Ytphfjhaffbfpfaa
open Go.VL Go.Proofs.Try
def rP (re:Re) (v:V):VL.Obj:=⟨0,true,8,[[i64 re.op,.d (.sl (re.set.map aN)),v,i64 re.mn,i64 re.mx,i64 re.mode,i64 re.n,bV re.neg]]⟩
def wI:VL.Obj:=⟨0,true,8,[[i64 0,.fu [],.fu [],i64 0,i64 0,i64 0,i64 0,bV false]]⟩
theorem K6 (re:Re) (hs:re.eN=true):ba prog 17 [lQ re] (lQ re):=by
 revert hs;refine Re.ind (Q:=λre=>re.eN=true->ba prog 17 [lQ re] (lQ re)) (λre ih hs=>?_) re;obtain⟨nV,hlen,A4⟩:=Re.fC hs;refine ar func17 rfl ntmps17 results17 rfl 0 57391 (by simp) (by simp) ?_;simp only[zW,simprocAttr,-Int.reduceNatCast',i64,aq re,iD,bD];refine az (tz re.set nV) (by simp [ak,ak.go,aq,i64,bV,bP]) (by simp [ak,ak.go,aq,i64,bV,bP]) ?_;simp only[zW,simprocAttr,-Int.reduceNatCast',i64,iD,bD];refine aJ (λn e s=>∃i:Nat,n=re.kids.length-i/\i<=re.kids.length/\e 1=.rf 0 0 0 0/\e 2=.rf 1 0 0 0/\e 13=.d (.sl (re.kids.map Re.cells))/\e 14=i64 re.kids.length/\e 15=i64 i /\
   ((i=0/\s=[rP re (.fu []),wI])\/∃g X,bJ 4 X=true/\s=[rP re (.so 3 g 0 i),wI,X,⟨g,true,8,((re.kids.take i).map Re.cells).map λc=>c.map V.d⟩]))
  ⟨_,_,_,cU.refl,0,rfl,by omega,rfl,rfl,rfl,rfl,rfl,.inl ⟨rfl,rfl⟩⟩ ?_
 rintro n e s ⟨i,rfl,hi,h1,h2,eB,e7,pf,lr⟩;rcases adV i re.kids.length with aH|iP
 ·obtain⟨k,hk⟩:∃k,re.kids[i]?=some k:=⟨_,adn aH⟩
  have hm:=adw hk;have Mu:=A4 k hm;rcases lr with ⟨rfl,rfl⟩|⟨g,X,hX,rfl⟩
  ·simp only[zW,simprocAttr,-Int.reduceNatCast',h1,h2,eB,e7,pf,i64,bV,aH,hk,rP,wI];refine ao mix [5,7] [] (by rfl) ?_;simp only[zW,simprocAttr,-Int.reduceNatCast',h1,h2,eB,e7,pf,i64,bV];refine bY (ih k hm Mu) (by simp [ak,ak.go,aq,i64,bV,bP]) (by simp [ak,ak.go,aq,i64,bV,bP]) ?_;simp only[zW,simprocAttr,-Int.reduceNatCast',h1,h2,eB,e7,pf,i64,bV];refine⟨λx hx=>by rw[List.mem_singleton.1 hx];simp [Re.gU],by simp,re.kids.length-1,_,_,by omega,cU.refl,1,rfl,by omega,?_,?_,?_,?_,?_,.inr ⟨0,_,?_,by rw[cy hk];rfl⟩⟩ <;> (try simp only[zU,Nat.reduceBEq,Nat.reduceShiftRight,Nat.reduceMod,Nat.reduceEqDiff,reduceIte])
   ·exact h1
   ·exact h2
   ·exact eB
   ·exact e7
   ·rw[bM _ (by omega)];rfl
   ·simp [ak]
  ·simp only[zW,simprocAttr,-Int.reduceNatCast',h1,h2,eB,e7,pf,i64,bV,aH,hk,rP,wI];refine ao mix [5,7] [] (by rfl) ?_;simp only[zW,simprocAttr,-Int.reduceNatCast',h1,h2,eB,e7,pf,i64,bV];refine bY (ih k hm Mu) (by simp [ak,ak.go,aq,i64,bV,bP]) (by simp [ak,ak.go,aq,i64,bV,bP]) ?_;simp only[zW,simprocAttr,-Int.reduceNatCast',h1,h2,eB,e7,pf,i64,bV];have QS:((((re.kids.take i).map Re.cells).map λc=>c.map V.d).take i)=((re.kids.take i).map Re.cells).map λc=>c.map V.d:=adT (by simp;omega);refine⟨λx hx=>by rw[List.mem_singleton.1 hx];simp [Re.gU],⟨by simp;omega,by omega⟩,re.kids.length-(i+1),_,_,by omega,cU.cut 4 (by omega) rfl ?_ [1,2,13,14,15] ?_,i+1,rfl,by omega,?_,?_,?_,?_,?_,.inr ⟨g+1,X,hX,?_⟩⟩ <;> (try simp only[zU,Nat.reduceBEq,Nat.reduceShiftRight,Nat.reduceMod,Nat.reduceEqDiff,reduceIte])
   ·rw[QS];simp only[bJ]at hX;simp [bJ,ak,hX];intro x hx y hy;obtain⟨r,_,rfl⟩:=List.mem_map.1 (List.mem_of_mem_take hx);obtain⟨d,_,rfl⟩:=List.mem_map.1 hy;rfl
   ·simp [cB,br,ak,h1,h2,eB,e7,i64]
   ·exact h1
   ·exact h2
   ·exact eB
   ·exact e7
   ·rw[bM _ (by omega)];rfl
   ·rw[cy hk];simp [List.take_take]
 ·have fy:i=re.kids.length:=by omega
  subst fy;rcases lr with ⟨h0,rfl⟩|⟨g,X,hX,rfl⟩
  ·simp only[zW,simprocAttr,-Int.reduceNatCast',h1,h2,eB,e7,pf,i64,bV,Nat.lt_irrefl,rP,wI];have:re.kids=[]:=adJ h0;rw[this];rfl
  ·simp only[zW,simprocAttr,-Int.reduceNatCast',h1,h2,eB,e7,pf,i64,bV,Nat.lt_irrefl,rP,wI];rw[adZ,lB 7 0 _ _ _ (by simp),ap (by omega)];rfl
def Du (p:iF):VL.Obj:=⟨0,true,19,[[.d (iD p.re.op),.d (.sl (p.re.set.map aN)),.d (.sl (p.re.kids.map Re.cells)),.d (iD p.re.mn),.d (iD p.re.mx),.d (iD p.re.mode),.d (iD p.re.n),.d (bD p.re.neg),i64 p.ah,bV p.aK,
 .fu [],.fu [],.fu [],i64 0,i64 0,i64 0,i64 0,bV false,bV false]]⟩
theorem Xs (p:iF) (hf:p.re.eN=true) (hv:dR p≠0):ba prog 6 [dF p] (.tu [.d (.sc (.pointer none)),i64 (dR p)]):=by
 have h1:=zV p hf;generalize dR p=v at *;cases p with
 |mk re ah aK =>
 simp only[Ac,Re.ae re,adG,adP,adr,adt,i64,iD,bD,bV]at h1;refine ar func6 rfl ntmps6 results6 rfl 0 31 (by simp) (by simp) ?_;simp only[zX,simprocAttr,-Int.reduceNatCast',i64,dF,Re.ae,bV,iD,bD];refine az h1 rfl rfl ?_;simp only[zX,simprocAttr,-Int.reduceNatCast',i64,dF,Re.ae,bV,iD,bD,hv,ne_eq,not_false_eq_true]
theorem Ry (p:iF) (hf:p.re.eN=true) (hv:dR p=0):au prog 6 [dF p] [] λv s=>v=.tu [.rf 0 0 0 0,i64 0]/\s=[Du p]:=by
 have h1:=zV p hf;rw[hv]at h1;have h2:=K6 p.re hf;cases p with
 |mk re ah aK =>
 simp only[Ac,Re.ae re,adG,adP,adr,adt,i64,iD,bD,bV]at h1;simp only[aq re,iD,bD]at h2;refine IU func6 rfl ntmps6 results6 rfl 0 31 (by simp) (by simp) ?_;simp only[zX,simprocAttr,-Int.reduceNatCast',i64,dF,Re.ae,bV,iD,bD];refine az h1 rfl rfl ?_;simp only[zX,simprocAttr,-Int.reduceNatCast',i64,dF,Re.ae,bV,iD,bD,ne_eq,aeh];refine az h2 rfl rfl ?_;simp only[zX,simprocAttr,-Int.reduceNatCast',i64,dF,Re.ae,bV,iD,bD,Qz,JV];exact⟨[1],by decide,rfl,rfl⟩
end Go.Proofs.Ytphfjhaffbfpfaa
