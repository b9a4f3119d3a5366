/- A part of the proof (G41 G49). -/
import Derived.Test.YtllagoeijcjpiaaBD3
import Derived.Test.YtllagoeijcjpiaaBD46
import Derived.Test.YtllagoeijcjpiaaBD41
set_option linter.unusedSimpArgs false
set_option linter.unusedVariables false
set_option maxRecDepth 100000
set_option maxHeartbeats 80000000
namespace Go.Proofs.Ytllagoeijcjpiaa
open Go.VL Go.Proofs.Try
def qH (re:Re) (v:V):VL.Obj:=⟨0,true,8,[[i64 re.op,.d (.sl (re.set.map aM)),v,i64 re.mn,i64 re.mx,i64 re.mode,i64 re.n,bV re.neg]]⟩
def uW:VL.Obj:=⟨0,true,8,[[i64 0,.fu [],.fu [],i64 0,i64 0,i64 0,i64 0,bV false]]⟩
theorem HS (re:Re) (hs:re.gi=true):bI prog 49 [lq re] (lq re):=by
 revert hs
 refine Re.ind (Q:=fun re=>re.gi=true→bI prog 49 [lq re] (lq re)) (fun re ih hs=>?_) re
 obtain⟨oT,hlen,JR⟩:=Re.ie hs
 refine av func49 rfl ntmps49 results49 rfl 0 57391 (by simp) (by simp) ?_
 simp only[zW,simprocAttr,-Int.reduceNatCast',i64,aw re,iD,bD]
 refine aE (yT re.set oT) (by simp [ar,ar.go,aw,i64,bV,ck]) (by simp [ar,ar.go,aw,i64,bV,ck]) ?_
 simp only[zW,simprocAttr,-Int.reduceNatCast',i64,iD,bD]
 refine aY (fun n e s=>∃i:Nat,n=re.kids.length-i∧i≤re.kids.length∧e 1=.rf 0 0 0 0∧e 2=.rf 1 0 0 0∧e 13=.d (.sl (re.kids.map Re.cells))∧e 14=i64 re.kids.length∧e 15=i64 i ∧
   ((i=0∧s=[qH re (.fu []),uW])∨∃g X,cP 4 X=true∧s=[qH re (.so 3 g 0 i),uW,X,⟨g,true,8,((re.kids.take i).map Re.cells).map fun c=>c.map V.d⟩]))
  ⟨_,_,_,dt.refl,0,rfl,by omega,rfl,rfl,rfl,rfl,rfl,.inl ⟨rfl,rfl⟩⟩ ?_
 rintro n e s ⟨i,rfl,hi,h1,h2,kf,dh,vA,kz⟩
 rcases VX i re.kids.length with aT|iR
 ·obtain⟨k,hk⟩:∃k,re.kids[i]?=some k:=⟨_,Vu aT⟩
  have hm:=Vy hk
  have Mo:=JR k hm
  rcases kz with ⟨rfl,rfl⟩|⟨g,X,hX,rfl⟩
  ·simp only[zW,simprocAttr,-Int.reduceNatCast',h1,h2,kf,dh,vA,i64,bV,aT,hk,qH,uW]
   refine an mix [5,7] [] (by rfl) ?_
   simp only[zW,simprocAttr,-Int.reduceNatCast',h1,h2,kf,dh,vA,i64,bV]
   refine cz (ih k hm Mo) (by simp [ar,ar.go,aw,i64,bV,ck]) (by simp [ar,ar.go,aw,i64,bV,ck]) ?_
   simp only[zW,simprocAttr,-Int.reduceNatCast',h1,h2,kf,dh,vA,i64,bV]
   refine⟨fun x hx=>by rw[List.mem_singleton.1 hx];simp [Re.gF],by simp,re.kids.length-1,_,_,by omega,dt.refl,1,rfl,by omega,?_,?_,?_,?_,?_,.inr ⟨0,_,?_,by rw[fg hk];rfl⟩⟩ <;> (try simp only[zU,Nat.reduceBEq,Nat.reduceShiftRight,Nat.reduceMod,Nat.reduceEqDiff,reduceIte])
   ·exact h1
   ·exact h2
   ·exact kf
   ·exact dh
   ·rw[bR _ (by omega)];rfl
   ·simp [ar]
  ·simp only[zW,simprocAttr,-Int.reduceNatCast',h1,h2,kf,dh,vA,i64,bV,aT,hk,qH,uW]
   refine an mix [5,7] [] (by rfl) ?_
   simp only[zW,simprocAttr,-Int.reduceNatCast',h1,h2,kf,dh,vA,i64,bV]
   refine cz (ih k hm Mo) (by simp [ar,ar.go,aw,i64,bV,ck]) (by simp [ar,ar.go,aw,i64,bV,ck]) ?_
   simp only[zW,simprocAttr,-Int.reduceNatCast',h1,h2,kf,dh,vA,i64,bV]
   have RR:((((re.kids.take i).map Re.cells).map fun c=>c.map V.d).take i)=((re.kids.take i).map Re.cells).map fun c=>c.map V.d:=VZ (by simp;omega)
   refine⟨fun x hx=>by rw[List.mem_singleton.1 hx];simp [Re.gF],⟨by simp;omega,by omega⟩,re.kids.length-(i+1),_,_,by omega,dt.cut 4 (by omega) rfl ?_ [1,2,13,14,15] ?_,i+1,rfl,by omega,?_,?_,?_,?_,?_,.inr ⟨g+1,X,hX,?_⟩⟩ <;> (try simp only[zU,Nat.reduceBEq,Nat.reduceShiftRight,Nat.reduceMod,Nat.reduceEqDiff,reduceIte])
   ·rw[RR]
    simp only[cP]at hX
    simp [cP,ar,hX]
    intro x hx y hy
    obtain⟨r,_,rfl⟩:=List.mem_map.1 (Wo hx)
    obtain⟨d,_,rfl⟩:=List.mem_map.1 hy
    rfl
   ·simp [cu,bg,ar,h1,h2,kf,dh,i64]
   ·exact h1
   ·exact h2
   ·exact kf
   ·exact dh
   ·rw[bR _ (by omega)];rfl
   ·rw[fg hk]
    simp [List.take_take]
 ·have kT:i=re.kids.length:=by omega
  subst kT
  rcases kz with ⟨h0,rfl⟩|⟨g,X,hX,rfl⟩
  ·simp only[zW,simprocAttr,-Int.reduceNatCast',h1,h2,kf,dh,vA,i64,bV,Wj,qH,uW]
   have:re.kids=[]:=VD h0
   rw[this]
   rfl
  ·simp only[zW,simprocAttr,-Int.reduceNatCast',h1,h2,kf,dh,vA,i64,bV,Wj,qH,uW]
   rw[We,nz 7 0 _ _ _ (by simp),if_pos (by omega)]
   rfl
def Ao (p:ic):VL.Obj:=⟨0,true,19,[[.d (iD p.re.op),.d (.sl (p.re.set.map aM)),.d (.sl (p.re.kids.map Re.cells)),.d (iD p.re.mn),.d (iD p.re.mx),.d (iD p.re.mode),.d (iD p.re.n),.d (bD p.re.neg),i64 p.ai,bV p.bG,
 .fu [],.fu [],.fu [],i64 0,i64 0,i64 0,i64 0,bV false,bV false]]⟩
theorem QT (p:ic) (hf:p.re.gi=true) (hv:dV p≠0):bI prog 22 [eb p] (.tu [.d (.sc (.pointer none)),i64 (dV p)]):=by
 have h1:=Dv p hf
 generalize dV p=v at *
 cases p with
 |mk re ai bG =>
 simp only[yZ,Re.ae re,VP,VO,Vz,Vx,i64,iD,bD,bV]at h1
 refine av func22 rfl ntmps22 results22 rfl 0 31 (by simp) (by simp) ?_
 simp only[zX,simprocAttr,-Int.reduceNatCast',i64,eb,Re.ae,bV,iD,bD]
 refine aE h1 rfl rfl ?_
 simp only[zX,simprocAttr,-Int.reduceNatCast',i64,eb,Re.ae,bV,iD,bD,hv,ne_eq,not_false_eq_true]
theorem LO (p:ic) (hf:p.re.gi=true) (hv:dV p=0):az prog 22 [eb p] [] fun v s=>v=.tu [.rf 0 0 0 0,i64 0]∧s=[Ao p]:=by
 have h1:=Dv p hf
 rw[hv]at h1
 have h2:=HS p.re hf
 cases p with
 |mk re ai bG =>
 simp only[yZ,Re.ae re,VP,VO,Vz,Vx,i64,iD,bD,bV]at h1
 simp only[aw re,iD,bD]at h2
 refine NO func22 rfl ntmps22 results22 rfl 0 31 (by simp) (by simp) ?_
 simp only[zX,simprocAttr,-Int.reduceNatCast',i64,eb,Re.ae,bV,iD,bD]
 refine aE h1 rfl rfl ?_
 simp only[zX,simprocAttr,-Int.reduceNatCast',i64,eb,Re.ae,bV,iD,bD,ne_eq,not_true_eq_false]
 refine aE h2 rfl rfl ?_
 simp only[zX,simprocAttr,-Int.reduceNatCast',i64,eb,Re.ae,bV,iD,bD,Pd,MT]
 exact⟨[1],by decide,rfl,rfl⟩
end Go.Proofs.Ytllagoeijcjpiaa
