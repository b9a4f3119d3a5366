/- A part of the proof (F51 F52). -/
import Derived.Test.YtafbdphblilenaaAB2
import Derived.Test.YtafbdphblilenaaAB6
set_option linter.unusedSimpArgs false
set_option linter.unusedVariables false
set_option maxRecDepth 100000
set_option maxHeartbeats 80000000
set_option linter.unusedSimpArgs false
set_option linter.unusedVariables false
namespace Go.Proofs.Ytafbdphblilenaa
open Go.VL Go.Proofs.Try
def sgI (x y:Int):Int:=if x < y then -1 else if y < x then 1 else 0
def lexP:List (Int × Int)→Int
 | []=>0
 | p::l=>if sgI p.1 p.2≠0 then sgI p.1 p.2 else lexP l
def pairsV (l:List (Int × Int)):D:=.sl (l.map fun p=>[iD p.1,iD p.2])
theorem astOrder_ok (l:List (Int × Int)) (hl:l.length≤1000000):PureOK prog 108 [.d (pairsV l)] (i64 (lexP l)):=by
 refine fn_ok func108 rfl ntmps108 results108 rfl 0 245 (by simp) (by simp) ?_
 simp only[zX,Nat.reduceShiftRight,Nat.reduceMod,Nat.reduceLT,Nat.reduceMul,Nat.reduceSub,Int.reduceToNat,Int.reduceNeg,Int.reduceLT,Int.reduceLE,Int.reduceEq,Nat.reduceEqDiff,Nat.reduceAdd,Nat.reduceLeDiff,reduceIte,reduceCtorEq,Nat.reduceBEq,i64,pairsV]
 refine loop_rule (fun n e s=>∃i:Nat,n=l.length - i∧i≤l.length∧e 5=.d (pairsV l)∧e 6=i64 l.length∧e 7=i64 i∧s=[]∧lexP l=lexP (l.drop i))
  ⟨_,_,_,Cln.refl,0,rfl,by omega,rfl,rfl,rfl,rfl,rfl⟩ ?_
 rintro n e s ⟨i,rfl,hi,h5,h6,h7,rfl,hlx⟩
 rcases Nat.lt_or_ge i l.length with hlt | hge
 ·obtain⟨p,hp⟩:∃p,l[i]?=some p:=⟨_,List.getElem?_eq_getElem hlt⟩
  have hd:l.drop i=p::l.drop (i + 1):=by
   rw[List.drop_eq_getElem_cons hlt]
   rw[List.getElem?_eq_getElem hlt] at hp
   simp only[Option.some.injEq] at hp
   rw[hp]
  rw[hd,lexP] at hlx
  have hcs:p.1 < p.2∨(¬p.1 < p.2∧p.2 < p.1)∨(¬p.1 < p.2∧¬p.2 < p.1):=by omega
  rcases hcs with c1 | ⟨c1,c2⟩ | ⟨c1,c2⟩
  ·rw[hlx,show sgI p.1 p.2=-1 by simp [sgI,c1],if_pos (by decide)]
   simp only[zX,Nat.reduceShiftRight,Nat.reduceMod,Nat.reduceLT,Nat.reduceMul,Nat.reduceSub,Int.reduceToNat,Int.reduceNeg,Int.reduceLT,Int.reduceLE,Int.reduceEq,Nat.reduceEqDiff,Nat.reduceAdd,Nat.reduceLeDiff,reduceIte,reduceCtorEq,Nat.reduceBEq,i64,h5,h6,h7,pairsV,hlt,hp,iD,c1]
   all_goals first | exact⟨rfl,rfl⟩ | exact⟨rfl,trivial⟩ | rfl | trivial | (rw[reV_eq]; rfl)
  ·rw[hlx,show sgI p.1 p.2=1 by simp [sgI,c1,c2],if_pos (by decide)]
   simp only[zX,Nat.reduceShiftRight,Nat.reduceMod,Nat.reduceLT,Nat.reduceMul,Nat.reduceSub,Int.reduceToNat,Int.reduceNeg,Int.reduceLT,Int.reduceLE,Int.reduceEq,Nat.reduceEqDiff,Nat.reduceAdd,Nat.reduceLeDiff,reduceIte,reduceCtorEq,Nat.reduceBEq,i64,h5,h6,h7,pairsV,hlt,hp,iD,c1,c2]
   all_goals first | exact⟨rfl,rfl⟩ | exact⟨rfl,trivial⟩ | rfl | trivial | (rw[reV_eq]; rfl)
  ·rw[show sgI p.1 p.2=0 by simp [sgI,c1,c2],if_neg (by decide)] at hlx
   simp only[zX,Nat.reduceShiftRight,Nat.reduceMod,Nat.reduceLT,Nat.reduceMul,Nat.reduceSub,Int.reduceToNat,Int.reduceNeg,Int.reduceLT,Int.reduceLE,Int.reduceEq,Nat.reduceEqDiff,Nat.reduceAdd,Nat.reduceLeDiff,reduceIte,reduceCtorEq,Nat.reduceBEq,i64,h5,h6,h7,pairsV,hlt,hp,iD,c1,c2]
   refine⟨by decide,by decide,by decide,by decide,l.length - (i + 1),_,_,by omega,Cln.cut 0 (by omega) rfl rfl [5,6,7] ?_,i + 1,rfl,hlt,?_,?_,?_,rfl,hlx⟩ <;> (try simp only[zU,Nat.reduceBEq,Nat.reduceShiftRight,Nat.reduceMod,Nat.reduceEqDiff,reduceIte])
   ·simp [updE,trimE_app,refsV,h5,h6,i64]
   ·exact h5
   ·exact h6
   ·rw[w64 _ (by omega)]; rfl
 ·have hie:i=l.length:=by omega
  subst hie
  rw[List.drop_length] at hlx
  simp only[zX,Nat.reduceShiftRight,Nat.reduceMod,Nat.reduceLT,Nat.reduceMul,Nat.reduceSub,Int.reduceToNat,Int.reduceNeg,Int.reduceLT,Int.reduceLE,Int.reduceEq,Nat.reduceEqDiff,Nat.reduceAdd,Nat.reduceLeDiff,reduceIte,reduceCtorEq,Nat.reduceBEq,i64,h5,h6,h7,Nat.lt_irrefl]
  rw[hlx]; rfl
def digI (b:Bool):Int:=if b=true then 1 else 0
theorem digit_ok (b:Bool):PureOK prog 89 [bV b] (i64 (digI b)):=by
 refine fn_ok func89 rfl ntmps89 results89 rfl 0 5 (by simp) (by simp) ?_
 cases b
 ·simp only[zX,Nat.reduceShiftRight,Nat.reduceMod,Nat.reduceLT,Nat.reduceMul,Nat.reduceSub,Int.reduceToNat,Int.reduceNeg,Int.reduceLT,Int.reduceLE,Int.reduceEq,Nat.reduceEqDiff,Nat.reduceAdd,Nat.reduceLeDiff,reduceIte,reduceCtorEq,Nat.reduceBEq,i64,bV,digI,Bool.false_eq_true]
 ·simp only[zX,Nat.reduceShiftRight,Nat.reduceMod,Nat.reduceLT,Nat.reduceMul,Nat.reduceSub,Int.reduceToNat,Int.reduceNeg,Int.reduceLT,Int.reduceLE,Int.reduceEq,Nat.reduceEqDiff,Nat.reduceAdd,Nat.reduceLeDiff,reduceIte,reduceCtorEq,Nat.reduceBEq,i64,bV,digI]
theorem flat_inj:∀{l l':List (Int × Int)},(l.flatMap fun s=>[s.1,s.2])=(l'.flatMap fun s=>[s.1,s.2])→l=l'
 | [],[],_=>rfl
 | [],y::l',h=>by simp at h
 | x::l,[],h=>by simp at h
 | x::l,y::l',h=>by
  simp only[List.flatMap_cons,List.cons_append,List.nil_append,List.cons.injEq] at h
  rw[flat_inj h.2.2,Prod.ext h.1 h.2.1]
end Go.Proofs.Ytafbdphblilenaa
