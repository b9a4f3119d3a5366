/- A part of the proof (F34). -/
import Derived.Test.YtpppfpaalcbggaaMB3
set_option linter.unusedSimpArgs false
set_option linter.unusedVariables false
set_option maxRecDepth 100000
set_option maxHeartbeats 80000000
set_option linter.unusedSimpArgs false
set_option linter.unusedVariables false
namespace Go.Proofs.Ytpppfpaalcbggaa
open Go.VL Go.Proofs.Try
def kidsR (op:Int):Int × Int :=
 if op=2∨op=3 then (2,-1) else if op=4∨op=5∨op=7∨op=8∨op=9 then (1,1) else if op=10 then (2,2) else (0,0)
theorem refKids_ok (op:Int):PureOK prog 90 [i64 op] (.tu [i64 (kidsR op).1,i64 (kidsR op).2]):=by
 have hcase:op=2∨op=3∨op=4∨op=5∨op=7∨op=8∨op=9∨op=10∨(¬op=2∧¬op=3∧¬op=4∧¬op=5∧¬op=7∧¬op=8∧¬op=9∧¬op=10):=by omega
 rcases hcase with p | p | p | p | p | p | p | p | ⟨p1,p2,p3,p4,p5,p6,p7,p8⟩
 all_goals
  first
   |(rw[p]
     refine fn_ok func90 rfl ntmps90 results90 rfl 0 317 (by simp) (by simp) ?_
     simp only[zW,Nat.reduceShiftRight,Nat.reduceMod,Nat.reduceLT,Nat.reduceMul,Nat.reduceSub,Int.reduceToNat,Int.reduceNeg,Int.reduceLT,Int.reduceLE,Int.reduceEq,Nat.reduceEqDiff,Nat.reduceAdd,Nat.reduceLeDiff,reduceIte,reduceCtorEq,Nat.reduceBEq,i64]
     all_goals first | exact⟨rfl,rfl⟩ | exact⟨rfl,trivial⟩ | rfl | trivial | (rw[reV_eq]; rfl))
   |(rw[show kidsR op=(0,0) by simp [kidsR,p1,p2,p3,p4,p5,p6,p7,p8]]
     refine fn_ok func90 rfl ntmps90 results90 rfl 0 317 (by simp) (by simp) ?_
     simp only[zW,Nat.reduceShiftRight,Nat.reduceMod,Nat.reduceLT,Nat.reduceMul,Nat.reduceSub,Int.reduceToNat,Int.reduceNeg,Int.reduceLT,Int.reduceLE,Int.reduceEq,Nat.reduceEqDiff,Nat.reduceAdd,Nat.reduceLeDiff,reduceIte,reduceCtorEq,Nat.reduceBEq,i64,p1,p2,p3,p4,p5,p6,p7,p8]
     all_goals first | exact⟨rfl,rfl⟩ | exact⟨rfl,trivial⟩ | rfl | trivial | (rw[reV_eq]; rfl))
def spOk (top:Int):Int→List (Int × Int)→Bool
 | _,[]=>true
 | p,s::l=>decide (0≤s.1∧s.1≤s.2∧s.2≤top∧p + 1 < s.1)&&spOk top s.2 l
def spansR (l:List (Int × Int)) (top:Int):Bool:=decide (l.length≤64)&&spOk top (-2) l
def prevHi (l:List (Int × Int)):Nat→Int
 | 0=>-2
 | i + 1=>(l[i]?.map (·.2)).getD 0
theorem refSpans_ok (l:List (Int × Int)) (hl:l.length≤1000000000) (top:Int) (ht:top≤1114111):PureOK prog 91 [.d (.sl (l.map spanC)),i64 top] (bV (spansR l top)):=by
 refine fn_ok func91 rfl ntmps91 results91 rfl 0 51 (by simp) (by simp) ?_
 by_cases h64:(64:Int) < l.length
 ·simp only[zX,Nat.reduceShiftRight,Nat.reduceMod,Nat.reduceLT,Nat.reduceMul,Nat.reduceSub,Int.reduceToNat,Int.reduceNeg,Int.reduceLT,Int.reduceLE,Int.reduceEq,Nat.reduceEqDiff,Nat.reduceAdd,Nat.reduceLeDiff,reduceIte,reduceCtorEq,Nat.reduceBEq,i64,h64]
  have:¬l.length≤64:=by omega
  simp [spansR,bV,this]
 have h64':l.length≤64:=by omega
 have hR:spansR l top=spOk top (-2) l:=by simp [spansR,h64']
 rw[hR]
 simp only[zX,Nat.reduceShiftRight,Nat.reduceMod,Nat.reduceLT,Nat.reduceMul,Nat.reduceSub,Int.reduceToNat,Int.reduceNeg,Int.reduceLT,Int.reduceLE,Int.reduceEq,Nat.reduceEqDiff,Nat.reduceAdd,Nat.reduceLeDiff,reduceIte,reduceCtorEq,Nat.reduceBEq,i64,h64]
 refine loop_rule (fun n e s=>∃i:Nat,n=l.length - i∧i≤l.length∧e 0=.d (.sl (l.map spanC))∧e 1=i64 top∧e 5=i64 i∧s=[]∧spOk top (-2) l=spOk top (prevHi l i) (l.drop i)∧(0 < i→0≤prevHi l i∧prevHi l i≤top))
  ⟨_,_,_,Cln.refl,0,rfl,by omega,rfl,rfl,rfl,rfl,rfl,fun h=>absurd h (by omega)⟩ ?_
 rintro n e s ⟨i,rfl,hi,h0,h1,h5,rfl,hsp,hpv⟩
 rcases Nat.lt_or_ge i l.length with hlt | hge
 ·obtain⟨k,hk⟩:∃k,l[i]?=some k:=⟨_,List.getElem?_eq_getElem hlt⟩
  have hd:l.drop i=k::l.drop (i + 1):=by
   rw[List.drop_eq_getElem_cons hlt]
   rw[List.getElem?_eq_getElem hlt] at hk
   simp only[Option.some.injEq] at hk
   rw[hk]
  rw[hd] at hsp
  simp only[spOk] at hsp
  have hp1:prevHi l (i + 1)=k.2:=by simp [prevHi,hk]
  simp only[zX,Nat.reduceShiftRight,Nat.reduceMod,Nat.reduceLT,Nat.reduceMul,Nat.reduceSub,Int.reduceToNat,Int.reduceNeg,Int.reduceLT,Int.reduceLE,Int.reduceEq,Nat.reduceEqDiff,Nat.reduceAdd,Nat.reduceLeDiff,reduceIte,reduceCtorEq,Nat.reduceBEq,i64,h0,h1,h5,hlt]
  refine draw_c mix [] [] (by rfl) ?_
  cases i with
  | zero =>
   have hsp:spOk top (-2) l=(decide (0≤k.1∧k.1≤k.2∧k.2≤top∧-2 + 1 < k.1)&&spOk top k.2 (l.drop (0 + 1))):=hsp
   simp only[zX,Nat.reduceShiftRight,Nat.reduceMod,Nat.reduceLT,Nat.reduceMul,Nat.reduceSub,Int.reduceToNat,Int.reduceNeg,Int.reduceLT,Int.reduceLE,Int.reduceEq,Nat.reduceEqDiff,Nat.reduceAdd,Nat.reduceLeDiff,reduceIte,reduceCtorEq,Nat.reduceBEq,i64,h0,h1,h5,hk,spanC,iD,Int.natCast_zero]
   repeat' (first
 |(with_reducible refine And.intro (by first | omega | exact⟨by omega,by omega⟩ | (simp; done)) ?_)
 |(with_reducible refine condS (fun hc=>?_) (fun hc=>?_) <;> simp only[zX,Nat.reduceShiftRight,Nat.reduceMod,Nat.reduceLT,Nat.reduceMul,Nat.reduceSub,Int.reduceToNat,Int.reduceNeg,Int.reduceLT,Int.reduceLE,Int.reduceEq,Nat.reduceEqDiff,Nat.reduceAdd,Nat.reduceLeDiff,reduceIte,reduceCtorEq,Nat.reduceBEq,i64,h0,h1,h5,hk,spanC,iD,Int.natCast_zero,hc])
 |(with_reducible refine guardS_t (fun hc=>?_) (fun hc=>?_) <;> simp only[zX,Nat.reduceShiftRight,Nat.reduceMod,Nat.reduceLT,Nat.reduceMul,Nat.reduceSub,Int.reduceToNat,Int.reduceNeg,Int.reduceLT,Int.reduceLE,Int.reduceEq,Nat.reduceEqDiff,Nat.reduceAdd,Nat.reduceLeDiff,reduceIte,reduceCtorEq,Nat.reduceBEq,i64,h0,h1,h5,hk,spanC,iD,Int.natCast_zero,hc])
 |(with_reducible refine guardS_f (fun hc=>?_) (fun hc=>?_) <;> simp only[zX,Nat.reduceShiftRight,Nat.reduceMod,Nat.reduceLT,Nat.reduceMul,Nat.reduceSub,Int.reduceToNat,Int.reduceNeg,Int.reduceLT,Int.reduceLE,Int.reduceEq,Nat.reduceEqDiff,Nat.reduceAdd,Nat.reduceLeDiff,reduceIte,reduceCtorEq,Nat.reduceBEq,i64,h0,h1,h5,hk,spanC,iD,Int.natCast_zero,hc])
 |(with_reducible refine guardS_nt (fun hc=>?_) (fun hc=>?_) <;> simp only[zX,Nat.reduceShiftRight,Nat.reduceMod,Nat.reduceLT,Nat.reduceMul,Nat.reduceSub,Int.reduceToNat,Int.reduceNeg,Int.reduceLT,Int.reduceLE,Int.reduceEq,Nat.reduceEqDiff,Nat.reduceAdd,Nat.reduceLeDiff,reduceIte,reduceCtorEq,Nat.reduceBEq,i64,h0,h1,h5,hk,spanC,iD,Int.natCast_zero,hc])
 |(with_reducible refine guardS_nf (fun hc=>?_) (fun hc=>?_) <;> simp only[zX,Nat.reduceShiftRight,Nat.reduceMod,Nat.reduceLT,Nat.reduceMul,Nat.reduceSub,Int.reduceToNat,Int.reduceNeg,Int.reduceLT,Int.reduceLE,Int.reduceEq,Nat.reduceEqDiff,Nat.reduceAdd,Nat.reduceLeDiff,reduceIte,reduceCtorEq,Nat.reduceBEq,i64,h0,h1,h5,hk,spanC,iD,Int.natCast_zero,hc])
 |(with_reducible refine condSb (fun hc=>?_) (fun hc=>?_) <;> simp only[zX,Nat.reduceShiftRight,Nat.reduceMod,Nat.reduceLT,Nat.reduceMul,Nat.reduceSub,Int.reduceToNat,Int.reduceNeg,Int.reduceLT,Int.reduceLE,Int.reduceEq,Nat.reduceEqDiff,Nat.reduceAdd,Nat.reduceLeDiff,reduceIte,reduceCtorEq,Nat.reduceBEq,i64,h0,h1,h5,hk,spanC,iD,Int.natCast_zero,hc])
 |(with_reducible refine guardS_b (fun hc=>?_) (fun hc=>?_) <;> simp only[zX,Nat.reduceShiftRight,Nat.reduceMod,Nat.reduceLT,Nat.reduceMul,Nat.reduceSub,Int.reduceToNat,Int.reduceNeg,Int.reduceLT,Int.reduceLE,Int.reduceEq,Nat.reduceEqDiff,Nat.reduceAdd,Nat.reduceLeDiff,reduceIte,reduceCtorEq,Nat.reduceBEq,i64,h0,h1,h5,hk,spanC,iD,Int.natCast_zero,hc]))
   any_goals (refine congrArg bV (Eq.symm ?_); rw[hsp,show decide (0≤k.1∧k.1≤k.2∧k.2≤top∧-2 + 1 < k.1)=false from decide_eq_false (by omega)]; rfl)
   refine⟨l.length - 1,_,_,by omega,Cln.refl,1,rfl,hlt,?_,?_,?_,rfl,?_,?_⟩ <;> (try simp only[zU,Nat.reduceBEq,Nat.reduceShiftRight,Nat.reduceMod,Nat.reduceEqDiff,reduceIte])
   ·exact h0
   ·exact h1
   ·rw[w64 _ (by omega)]; rfl
   ·rw[hsp,hp1,show decide (0≤k.1∧k.1≤k.2∧k.2≤top∧-2 + 1 < k.1)=true from decide_eq_true (by omega)]; rfl
   ·intro _; rw[hp1]; omega
  | succ j =>
   obtain⟨kp,hkp⟩:∃k,l[j]?=some k:=⟨_,List.getElem?_eq_getElem (by omega:j < l.length)⟩
   have hpe:prevHi l (j + 1)=kp.2:=by simp [prevHi,hkp]
   have hpv:=hpv (by omega)
   rw[hpe] at hpv hsp
   have w1:IntKind.i64.wrap (((j + 1:Nat):Int) - 1)=(j:Int):=by rw[w64 _ (by omega)]; omega
   have w2:IntKind.i64.wrap (kp.2 + 1)=kp.2 + 1:=w64 _ (by omega)
   have p0:(0:Int) < ((j + 1:Nat):Int):=by omega
   have q0:(0:Int)≤((j + 1:Nat):Int):=by omega
   have q1:((j + 1:Nat):Int) < l.length:=by omega
   have q2:(j:Int) < l.length:=by omega
   simp only[zX,Nat.reduceShiftRight,Nat.reduceMod,Nat.reduceLT,Nat.reduceMul,Nat.reduceSub,Int.reduceToNat,Int.reduceNeg,Int.reduceLT,Int.reduceLE,Int.reduceEq,Nat.reduceEqDiff,Nat.reduceAdd,Nat.reduceLeDiff,reduceIte,reduceCtorEq,Nat.reduceBEq,i64,h0,h1,h5,hk,spanC,iD,hkp,w1,w2,p0,q0,q1,q2]
   repeat' (first
 |(with_reducible refine And.intro (by first | omega | exact⟨by omega,by omega⟩ | (simp; done)) ?_)
 |(with_reducible refine condS (fun hc=>?_) (fun hc=>?_) <;> simp only[zX,Nat.reduceShiftRight,Nat.reduceMod,Nat.reduceLT,Nat.reduceMul,Nat.reduceSub,Int.reduceToNat,Int.reduceNeg,Int.reduceLT,Int.reduceLE,Int.reduceEq,Nat.reduceEqDiff,Nat.reduceAdd,Nat.reduceLeDiff,reduceIte,reduceCtorEq,Nat.reduceBEq,i64,h0,h1,h5,hk,spanC,iD,hkp,w1,w2,p0,q0,q1,q2,hc])
 |(with_reducible refine guardS_t (fun hc=>?_) (fun hc=>?_) <;> simp only[zX,Nat.reduceShiftRight,Nat.reduceMod,Nat.reduceLT,Nat.reduceMul,Nat.reduceSub,Int.reduceToNat,Int.reduceNeg,Int.reduceLT,Int.reduceLE,Int.reduceEq,Nat.reduceEqDiff,Nat.reduceAdd,Nat.reduceLeDiff,reduceIte,reduceCtorEq,Nat.reduceBEq,i64,h0,h1,h5,hk,spanC,iD,hkp,w1,w2,p0,q0,q1,q2,hc])
 |(with_reducible refine guardS_f (fun hc=>?_) (fun hc=>?_) <;> simp only[zX,Nat.reduceShiftRight,Nat.reduceMod,Nat.reduceLT,Nat.reduceMul,Nat.reduceSub,Int.reduceToNat,Int.reduceNeg,Int.reduceLT,Int.reduceLE,Int.reduceEq,Nat.reduceEqDiff,Nat.reduceAdd,Nat.reduceLeDiff,reduceIte,reduceCtorEq,Nat.reduceBEq,i64,h0,h1,h5,hk,spanC,iD,hkp,w1,w2,p0,q0,q1,q2,hc])
 |(with_reducible refine guardS_nt (fun hc=>?_) (fun hc=>?_) <;> simp only[zX,Nat.reduceShiftRight,Nat.reduceMod,Nat.reduceLT,Nat.reduceMul,Nat.reduceSub,Int.reduceToNat,Int.reduceNeg,Int.reduceLT,Int.reduceLE,Int.reduceEq,Nat.reduceEqDiff,Nat.reduceAdd,Nat.reduceLeDiff,reduceIte,reduceCtorEq,Nat.reduceBEq,i64,h0,h1,h5,hk,spanC,iD,hkp,w1,w2,p0,q0,q1,q2,hc])
 |(with_reducible refine guardS_nf (fun hc=>?_) (fun hc=>?_) <;> simp only[zX,Nat.reduceShiftRight,Nat.reduceMod,Nat.reduceLT,Nat.reduceMul,Nat.reduceSub,Int.reduceToNat,Int.reduceNeg,Int.reduceLT,Int.reduceLE,Int.reduceEq,Nat.reduceEqDiff,Nat.reduceAdd,Nat.reduceLeDiff,reduceIte,reduceCtorEq,Nat.reduceBEq,i64,h0,h1,h5,hk,spanC,iD,hkp,w1,w2,p0,q0,q1,q2,hc])
 |(with_reducible refine condSb (fun hc=>?_) (fun hc=>?_) <;> simp only[zX,Nat.reduceShiftRight,Nat.reduceMod,Nat.reduceLT,Nat.reduceMul,Nat.reduceSub,Int.reduceToNat,Int.reduceNeg,Int.reduceLT,Int.reduceLE,Int.reduceEq,Nat.reduceEqDiff,Nat.reduceAdd,Nat.reduceLeDiff,reduceIte,reduceCtorEq,Nat.reduceBEq,i64,h0,h1,h5,hk,spanC,iD,hkp,w1,w2,p0,q0,q1,q2,hc])
 |(with_reducible refine guardS_b (fun hc=>?_) (fun hc=>?_) <;> simp only[zX,Nat.reduceShiftRight,Nat.reduceMod,Nat.reduceLT,Nat.reduceMul,Nat.reduceSub,Int.reduceToNat,Int.reduceNeg,Int.reduceLT,Int.reduceLE,Int.reduceEq,Nat.reduceEqDiff,Nat.reduceAdd,Nat.reduceLeDiff,reduceIte,reduceCtorEq,Nat.reduceBEq,i64,h0,h1,h5,hk,spanC,iD,hkp,w1,w2,p0,q0,q1,q2,hc]))
   any_goals (refine congrArg bV (Eq.symm ?_); rw[hsp,show decide (0≤k.1∧k.1≤k.2∧k.2≤top∧kp.2 + 1 < k.1)=false from decide_eq_false (by omega)]; rfl)
   refine⟨l.length - (j + 1 + 1),_,_,by omega,Cln.refl,j + 1 + 1,rfl,hlt,?_,?_,?_,rfl,?_,?_⟩ <;> (try simp only[zU,Nat.reduceBEq,Nat.reduceShiftRight,Nat.reduceMod,Nat.reduceEqDiff,reduceIte])
   ·exact h0
   ·exact h1
   ·rw[w64 _ (by omega)]; rfl
   ·rw[hsp,hp1,show decide (0≤k.1∧k.1≤k.2∧k.2≤top∧kp.2 + 1 < k.1)=true from decide_eq_true (by omega)]; rfl
   ·intro _; rw[hp1]; omega
 ·have hie:i=l.length:=by omega
  subst hie
  simp only[zX,Nat.reduceShiftRight,Nat.reduceMod,Nat.reduceLT,Nat.reduceMul,Nat.reduceSub,Int.reduceToNat,Int.reduceNeg,Int.reduceLT,Int.reduceLE,Int.reduceEq,Nat.reduceEqDiff,Nat.reduceAdd,Nat.reduceLeDiff,reduceIte,reduceCtorEq,Nat.reduceBEq,i64,h0,h1,h5,Nat.lt_irrefl]
  rw[hsp]
  simp [spOk,bV]
end Go.Proofs.Ytpppfpaalcbggaa
