/- A part of the proof (K13 K14 K14B K14C K14D K14E). -/
import Derived.Test.YtdofoappodmcoaaKP6
import Derived.Test.YtdofoappodmcoaaKP9
set_option linter.unusedSimpArgs false
set_option linter.unusedVariables false
set_option maxRecDepth 100000
set_option maxHeartbeats 80000000
namespace Go.Proofs.Ytdofoappodmcoaa
open Go.VL Go.Proofs.Try
def setE (l:List (Int × Int)):Int:=if spOk 1114111 (-2) l=true then (if 64 < l.length then 4 else 0) else 1
def goodS (s:Int × Int):Bool:=decide (0≤s.1∧s.1≤s.2∧s.2≤1114111)
theorem good_ok (s:Int × Int):PureOK prog 131 [.ag [i64 s.1,i64 s.2]] (bV (goodS s)):=by
 refine fn_ok func131 rfl ntmps131 results131 rfl 0 7 (by simp) (by simp) ?_
 simp only[zX,Nat.reduceShiftRight,Nat.reduceMod,Nat.reduceLT,Nat.reduceMul,Nat.reduceSub,Int.reduceToNat,Int.reduceNeg,Int.reduceLT,Int.reduceLE,Int.reduceEq,Nat.reduceEqDiff,Nat.reduceAdd,Nat.reduceLeDiff,reduceIte,reduceCtorEq,Nat.reduceBEq,i64,bV,ge_iff_le]
 repeat' (first
 |(with_reducible refine And.intro (by first | omega | exact⟨by omega,by omega⟩ | (simp; done)) ?_)
 |(with_reducible refine condS (fun hc=>?_) (fun hc=>?_) <;> simp only[zX,Nat.reduceShiftRight,Nat.reduceMod,Nat.reduceLT,Nat.reduceMul,Nat.reduceSub,Int.reduceToNat,Int.reduceNeg,Int.reduceLT,Int.reduceLE,Int.reduceEq,Nat.reduceEqDiff,Nat.reduceAdd,Nat.reduceLeDiff,reduceIte,reduceCtorEq,Nat.reduceBEq,i64,bV,ge_iff_le,hc])
 |(with_reducible refine guardS_t (fun hc=>?_) (fun hc=>?_) <;> simp only[zX,Nat.reduceShiftRight,Nat.reduceMod,Nat.reduceLT,Nat.reduceMul,Nat.reduceSub,Int.reduceToNat,Int.reduceNeg,Int.reduceLT,Int.reduceLE,Int.reduceEq,Nat.reduceEqDiff,Nat.reduceAdd,Nat.reduceLeDiff,reduceIte,reduceCtorEq,Nat.reduceBEq,i64,bV,ge_iff_le,hc])
 |(with_reducible refine guardS_f (fun hc=>?_) (fun hc=>?_) <;> simp only[zX,Nat.reduceShiftRight,Nat.reduceMod,Nat.reduceLT,Nat.reduceMul,Nat.reduceSub,Int.reduceToNat,Int.reduceNeg,Int.reduceLT,Int.reduceLE,Int.reduceEq,Nat.reduceEqDiff,Nat.reduceAdd,Nat.reduceLeDiff,reduceIte,reduceCtorEq,Nat.reduceBEq,i64,bV,ge_iff_le,hc])
 |(with_reducible refine guardS_nt (fun hc=>?_) (fun hc=>?_) <;> simp only[zX,Nat.reduceShiftRight,Nat.reduceMod,Nat.reduceLT,Nat.reduceMul,Nat.reduceSub,Int.reduceToNat,Int.reduceNeg,Int.reduceLT,Int.reduceLE,Int.reduceEq,Nat.reduceEqDiff,Nat.reduceAdd,Nat.reduceLeDiff,reduceIte,reduceCtorEq,Nat.reduceBEq,i64,bV,ge_iff_le,hc])
 |(with_reducible refine guardS_nf (fun hc=>?_) (fun hc=>?_) <;> simp only[zX,Nat.reduceShiftRight,Nat.reduceMod,Nat.reduceLT,Nat.reduceMul,Nat.reduceSub,Int.reduceToNat,Int.reduceNeg,Int.reduceLT,Int.reduceLE,Int.reduceEq,Nat.reduceEqDiff,Nat.reduceAdd,Nat.reduceLeDiff,reduceIte,reduceCtorEq,Nat.reduceBEq,i64,bV,ge_iff_le,hc])
 |(with_reducible refine condSb (fun hc=>?_) (fun hc=>?_) <;> simp only[zX,Nat.reduceShiftRight,Nat.reduceMod,Nat.reduceLT,Nat.reduceMul,Nat.reduceSub,Int.reduceToNat,Int.reduceNeg,Int.reduceLT,Int.reduceLE,Int.reduceEq,Nat.reduceEqDiff,Nat.reduceAdd,Nat.reduceLeDiff,reduceIte,reduceCtorEq,Nat.reduceBEq,i64,bV,ge_iff_le,hc])
 |(with_reducible refine guardS_b (fun hc=>?_) (fun hc=>?_) <;> simp only[zX,Nat.reduceShiftRight,Nat.reduceMod,Nat.reduceLT,Nat.reduceMul,Nat.reduceSub,Int.reduceToNat,Int.reduceNeg,Int.reduceLT,Int.reduceLE,Int.reduceEq,Nat.reduceEqDiff,Nat.reduceAdd,Nat.reduceLeDiff,reduceIte,reduceCtorEq,Nat.reduceBEq,i64,bV,ge_iff_le,hc]))
 all_goals (simp only[goodS,bV]; simp [*]; try omega)
theorem right_ok (s:Int × Int):PureOK prog 130 [.ag [i64 s.1,i64 s.2]] (bV (goodS s)):=by
 refine fn_ok func130 rfl ntmps130 results130 rfl 0 7 (by simp) (by simp) ?_
 simp only[zX,Nat.reduceShiftRight,Nat.reduceMod,Nat.reduceLT,Nat.reduceMul,Nat.reduceSub,Int.reduceToNat,Int.reduceNeg,Int.reduceLT,Int.reduceLE,Int.reduceEq,Nat.reduceEqDiff,Nat.reduceAdd,Nat.reduceLeDiff,reduceIte,reduceCtorEq,Nat.reduceBEq,i64,bV,ge_iff_le]
 repeat' (first
 |(with_reducible refine And.intro (by first | omega | exact⟨by omega,by omega⟩ | (simp; done)) ?_)
 |(with_reducible refine condS (fun hc=>?_) (fun hc=>?_) <;> simp only[zX,Nat.reduceShiftRight,Nat.reduceMod,Nat.reduceLT,Nat.reduceMul,Nat.reduceSub,Int.reduceToNat,Int.reduceNeg,Int.reduceLT,Int.reduceLE,Int.reduceEq,Nat.reduceEqDiff,Nat.reduceAdd,Nat.reduceLeDiff,reduceIte,reduceCtorEq,Nat.reduceBEq,i64,bV,ge_iff_le,hc])
 |(with_reducible refine guardS_t (fun hc=>?_) (fun hc=>?_) <;> simp only[zX,Nat.reduceShiftRight,Nat.reduceMod,Nat.reduceLT,Nat.reduceMul,Nat.reduceSub,Int.reduceToNat,Int.reduceNeg,Int.reduceLT,Int.reduceLE,Int.reduceEq,Nat.reduceEqDiff,Nat.reduceAdd,Nat.reduceLeDiff,reduceIte,reduceCtorEq,Nat.reduceBEq,i64,bV,ge_iff_le,hc])
 |(with_reducible refine guardS_f (fun hc=>?_) (fun hc=>?_) <;> simp only[zX,Nat.reduceShiftRight,Nat.reduceMod,Nat.reduceLT,Nat.reduceMul,Nat.reduceSub,Int.reduceToNat,Int.reduceNeg,Int.reduceLT,Int.reduceLE,Int.reduceEq,Nat.reduceEqDiff,Nat.reduceAdd,Nat.reduceLeDiff,reduceIte,reduceCtorEq,Nat.reduceBEq,i64,bV,ge_iff_le,hc])
 |(with_reducible refine guardS_nt (fun hc=>?_) (fun hc=>?_) <;> simp only[zX,Nat.reduceShiftRight,Nat.reduceMod,Nat.reduceLT,Nat.reduceMul,Nat.reduceSub,Int.reduceToNat,Int.reduceNeg,Int.reduceLT,Int.reduceLE,Int.reduceEq,Nat.reduceEqDiff,Nat.reduceAdd,Nat.reduceLeDiff,reduceIte,reduceCtorEq,Nat.reduceBEq,i64,bV,ge_iff_le,hc])
 |(with_reducible refine guardS_nf (fun hc=>?_) (fun hc=>?_) <;> simp only[zX,Nat.reduceShiftRight,Nat.reduceMod,Nat.reduceLT,Nat.reduceMul,Nat.reduceSub,Int.reduceToNat,Int.reduceNeg,Int.reduceLT,Int.reduceLE,Int.reduceEq,Nat.reduceEqDiff,Nat.reduceAdd,Nat.reduceLeDiff,reduceIte,reduceCtorEq,Nat.reduceBEq,i64,bV,ge_iff_le,hc])
 |(with_reducible refine condSb (fun hc=>?_) (fun hc=>?_) <;> simp only[zX,Nat.reduceShiftRight,Nat.reduceMod,Nat.reduceLT,Nat.reduceMul,Nat.reduceSub,Int.reduceToNat,Int.reduceNeg,Int.reduceLT,Int.reduceLE,Int.reduceEq,Nat.reduceEqDiff,Nat.reduceAdd,Nat.reduceLeDiff,reduceIte,reduceCtorEq,Nat.reduceBEq,i64,bV,ge_iff_le,hc])
 |(with_reducible refine guardS_b (fun hc=>?_) (fun hc=>?_) <;> simp only[zX,Nat.reduceShiftRight,Nat.reduceMod,Nat.reduceLT,Nat.reduceMul,Nat.reduceSub,Int.reduceToNat,Int.reduceNeg,Int.reduceLT,Int.reduceLE,Int.reduceEq,Nat.reduceEqDiff,Nat.reduceAdd,Nat.reduceLeDiff,reduceIte,reduceCtorEq,Nat.reduceBEq,i64,bV,ge_iff_le,hc]))
 all_goals (simp only[goodS,bV]; simp [*]; try omega)
theorem spOk_next {l:List (Int × Int)} {i:Nat} {k:Int × Int} (hk:l[i]?=some k) {p:Int} (h:spOk 1114111 (-2) l=spOk 1114111 p (l.drop i)):spOk 1114111 (-2) l=(decide (0≤k.1∧k.1≤k.2∧k.2≤1114111∧p + 1 < k.1)&&spOk 1114111 k.2 (l.drop (i + 1))):=by
 rw[h]
 obtain⟨hlt,he⟩:=List.getElem?_eq_some_iff.1 hk
 rw[List.drop_eq_getElem_cons hlt,he,spOk]
theorem ref3Valid_ok (l:List (Int × Int)) (hl:l.length≤1000000000):PureOK prog 112 [.d (.sl (l.map spanC))] (i64 (setE l)):=by
 refine fn_ok func112 rfl ntmps112 results112 rfl 0 29 (by simp) (by simp) ?_
 simp only[zX,Nat.reduceShiftRight,Nat.reduceMod,Nat.reduceLT,Nat.reduceMul,Nat.reduceSub,Int.reduceToNat,Int.reduceNeg,Int.reduceLT,Int.reduceLE,Int.reduceEq,Nat.reduceEqDiff,Nat.reduceAdd,Nat.reduceLeDiff,reduceIte,reduceCtorEq,Nat.reduceBEq,i64]
 refine loop_rule (fun n e s=>∃i:Nat,n=l.length - i∧i≤l.length∧e 0=.d (.sl (l.map spanC))∧e 3=i64 i∧s=[]∧spOk 1114111 (-2) l=spOk 1114111 (prevHi l i) (l.drop i)∧(0 < i→0≤prevHi l i∧prevHi l i≤1114111))
  ⟨_,_,_,Cln.refl,0,rfl,by omega,rfl,rfl,rfl,rfl,fun h=>absurd h (by omega)⟩ ?_
 rintro n e s ⟨i,rfl,hi,h0,h3,rfl,hsp,hpv⟩
 rcases Nat.lt_or_ge i l.length with hlt | hge
 ·obtain⟨k,hk⟩:∃k,l[i]?=some k:=⟨_,List.getElem?_eq_getElem hlt⟩
  have hsp:=spOk_next hk hsp
  have hp1:prevHi l (i + 1)=k.2:=by simp [prevHi,hk]
  have hg:=good_ok k
  have hlt':(i:Int) < l.length:=by omega
  simp only[i64,bV] at hg
  by_cases c1:goodS k=true
  ·have c1':=of_decide_eq_true c1
   rw[c1] at hg
   cases i with
   | zero =>
    simp only[zX,Nat.reduceShiftRight,Nat.reduceMod,Nat.reduceLT,Nat.reduceMul,Nat.reduceSub,Int.reduceToNat,Int.reduceNeg,Int.reduceLT,Int.reduceLE,Int.reduceEq,Nat.reduceEqDiff,Nat.reduceAdd,Nat.reduceLeDiff,reduceIte,reduceCtorEq,Nat.reduceBEq,i64,iD,bD,spanC,h0,h3,hlt',hk]
    refine call_pure hg rfl rfl ?_
    simp only[zX,Nat.reduceShiftRight,Nat.reduceMod,Nat.reduceLT,Nat.reduceMul,Nat.reduceSub,Int.reduceToNat,Int.reduceNeg,Int.reduceLT,Int.reduceLE,Int.reduceEq,Nat.reduceEqDiff,Nat.reduceAdd,Nat.reduceLeDiff,reduceIte,reduceCtorEq,Nat.reduceBEq,i64,iD,bD,spanC,h0,h3,hlt',hk,Bool.not_true]
    refine draw_c mix [] [] (by rfl) ?_
    simp only[zX,Nat.reduceShiftRight,Nat.reduceMod,Nat.reduceLT,Nat.reduceMul,Nat.reduceSub,Int.reduceToNat,Int.reduceNeg,Int.reduceLT,Int.reduceLE,Int.reduceEq,Nat.reduceEqDiff,Nat.reduceAdd,Nat.reduceLeDiff,reduceIte,reduceCtorEq,Nat.reduceBEq,i64,iD,bD,spanC,h0,h3,hlt',hk,Bool.not_true,Int.natCast_zero,gt_iff_lt]
    refine⟨l.length - 1,_,_,by omega,Cln.refl,1,rfl,hlt,?_,?_,rfl,?_,?_⟩ <;> (try simp only[zU,Nat.reduceBEq,Nat.reduceShiftRight,Nat.reduceMod,Nat.reduceEqDiff,reduceIte])
    ·exact h0
    ·rw[w64 _ (by omega)]; rfl
    ·rw[hsp,hp1,show decide (0≤k.1∧k.1≤k.2∧k.2≤1114111∧prevHi l 0 + 1 < k.1)=true from decide_eq_true ⟨c1'.1,c1'.2.1,c1'.2.2,by show (-2:Int) + 1 < k.1; omega⟩]; rfl
    ·intro _; rw[hp1]; omega
   | succ j =>
    obtain⟨kp,hkp⟩:∃k,l[j]?=some k:=⟨_,List.getElem?_eq_getElem (by omega:j < l.length)⟩
    have hpe:prevHi l (j + 1)=kp.2:=by simp [prevHi,hkp]
    have hpv:=hpv (by omega)
    rw[hpe] at hpv hsp
    have w1:IntKind.i64.wrap (((j + 1:Nat):Int) - 1)=(j:Int):=by rw[w64 _ (by omega)]; omega
    have w2:IntKind.i64.wrap (k.1 - kp.2)=k.1 - kp.2:=w64 _ (by omega)
    have w3:IntKind.i64.wrap (kp.2 + 2)=kp.2 + 2:=w64 _ (by omega)
    have p0:(0:Int) < ((j + 1:Nat):Int):=by omega
    have q1:(0:Int)≤(j:Int):=by omega
    have q2:(j:Int) < l.length:=by omega
    by_cases c2:k.1 - kp.2 < 2
    ·have c2':=eq_true c2
     simp only[zX,Nat.reduceShiftRight,Nat.reduceMod,Nat.reduceLT,Nat.reduceMul,Nat.reduceSub,Int.reduceToNat,Int.reduceNeg,Int.reduceLT,Int.reduceLE,Int.reduceEq,Nat.reduceEqDiff,Nat.reduceAdd,Nat.reduceLeDiff,reduceIte,reduceCtorEq,Nat.reduceBEq,i64,iD,bD,spanC,h0,h3,hlt',hk,hkp,w1,w2,w3,p0,q1,q2,Bool.not_true,gt_iff_lt]
     refine call_pure hg rfl rfl ?_
     simp only[zX,Nat.reduceShiftRight,Nat.reduceMod,Nat.reduceLT,Nat.reduceMul,Nat.reduceSub,Int.reduceToNat,Int.reduceNeg,Int.reduceLT,Int.reduceLE,Int.reduceEq,Nat.reduceEqDiff,Nat.reduceAdd,Nat.reduceLeDiff,reduceIte,reduceCtorEq,Nat.reduceBEq,i64,iD,bD,spanC,h0,h3,hlt',hk,hkp,w1,w2,w3,p0,q1,q2,c2',Bool.not_true,gt_iff_lt]
     refine draw_c mix [] [] (by rfl) ?_
     simp only[zX,Nat.reduceShiftRight,Nat.reduceMod,Nat.reduceLT,Nat.reduceMul,Nat.reduceSub,Int.reduceToNat,Int.reduceNeg,Int.reduceLT,Int.reduceLE,Int.reduceEq,Nat.reduceEqDiff,Nat.reduceAdd,Nat.reduceLeDiff,reduceIte,reduceCtorEq,Nat.reduceBEq,i64,iD,bD,spanC,h0,h3,hlt',hk,hkp,w1,w2,w3,p0,q1,q2,c2',Bool.not_true,gt_iff_lt]
     have:setE l=1:=by
      unfold setE
      rw[if_neg]
      rw[hsp,decide_eq_false (by omega)]; simp
     rw[this]
    ·have c2':=c2
     simp only[zX,Nat.reduceShiftRight,Nat.reduceMod,Nat.reduceLT,Nat.reduceMul,Nat.reduceSub,Int.reduceToNat,Int.reduceNeg,Int.reduceLT,Int.reduceLE,Int.reduceEq,Nat.reduceEqDiff,Nat.reduceAdd,Nat.reduceLeDiff,reduceIte,reduceCtorEq,Nat.reduceBEq,i64,iD,bD,spanC,h0,h3,hlt',hk,hkp,w1,w2,w3,p0,q1,q2,Bool.not_true,gt_iff_lt]
     refine call_pure hg rfl rfl ?_
     simp only[zX,Nat.reduceShiftRight,Nat.reduceMod,Nat.reduceLT,Nat.reduceMul,Nat.reduceSub,Int.reduceToNat,Int.reduceNeg,Int.reduceLT,Int.reduceLE,Int.reduceEq,Nat.reduceEqDiff,Nat.reduceAdd,Nat.reduceLeDiff,reduceIte,reduceCtorEq,Nat.reduceBEq,i64,iD,bD,spanC,h0,h3,hlt',hk,hkp,w1,w2,w3,p0,q1,q2,c2',Bool.not_true,gt_iff_lt]
     refine draw_c mix [] [] (by rfl) ?_
     simp only[zX,Nat.reduceShiftRight,Nat.reduceMod,Nat.reduceLT,Nat.reduceMul,Nat.reduceSub,Int.reduceToNat,Int.reduceNeg,Int.reduceLT,Int.reduceLE,Int.reduceEq,Nat.reduceEqDiff,Nat.reduceAdd,Nat.reduceLeDiff,reduceIte,reduceCtorEq,Nat.reduceBEq,i64,iD,bD,spanC,h0,h3,hlt',hk,hkp,w1,w2,w3,p0,q1,q2,c2',Bool.not_true,gt_iff_lt]
     refine⟨l.length - (j + 1 + 1),_,_,by omega,Cln.refl,j + 1 + 1,rfl,hlt,?_,?_,rfl,?_,?_⟩ <;> (try simp only[zU,Nat.reduceBEq,Nat.reduceShiftRight,Nat.reduceMod,Nat.reduceEqDiff,reduceIte])
     ·exact h0
     ·rw[w64 _ (by omega)]; rfl
     ·rw[hsp,hp1,show decide (0≤k.1∧k.1≤k.2∧k.2≤1114111∧kp.2 + 1 < k.1)=true from decide_eq_true (by omega)]; rfl
     ·intro _; rw[hp1]; omega
  ·have c1:goodS k=false:=by simpa using c1
   have c1':=of_decide_eq_false c1
   rw[c1] at hg
   simp only[zX,Nat.reduceShiftRight,Nat.reduceMod,Nat.reduceLT,Nat.reduceMul,Nat.reduceSub,Int.reduceToNat,Int.reduceNeg,Int.reduceLT,Int.reduceLE,Int.reduceEq,Nat.reduceEqDiff,Nat.reduceAdd,Nat.reduceLeDiff,reduceIte,reduceCtorEq,Nat.reduceBEq,i64,iD,bD,spanC,h0,h3,hlt',hk]
   refine call_pure hg rfl rfl ?_
   simp only[zX,Nat.reduceShiftRight,Nat.reduceMod,Nat.reduceLT,Nat.reduceMul,Nat.reduceSub,Int.reduceToNat,Int.reduceNeg,Int.reduceLT,Int.reduceLE,Int.reduceEq,Nat.reduceEqDiff,Nat.reduceAdd,Nat.reduceLeDiff,reduceIte,reduceCtorEq,Nat.reduceBEq,i64,iD,bD,spanC,h0,h3,hlt',hk,Bool.not_false]
   refine draw_c mix [] [] (by rfl) ?_
   simp only[zX,Nat.reduceShiftRight,Nat.reduceMod,Nat.reduceLT,Nat.reduceMul,Nat.reduceSub,Int.reduceToNat,Int.reduceNeg,Int.reduceLT,Int.reduceLE,Int.reduceEq,Nat.reduceEqDiff,Nat.reduceAdd,Nat.reduceLeDiff,reduceIte,reduceCtorEq,Nat.reduceBEq,i64,iD,bD,spanC,h0,h3,hlt',hk,Bool.not_false]
   have:setE l=1:=by
    unfold setE
    rw[if_neg]
    rw[hsp,decide_eq_false (by omega)]; simp
   rw[this]
 ·have hie:i=l.length:=by omega
  subst hie
  have hlt':¬(l.length:Int) < l.length:=by omega
  have hs0:spOk 1114111 (-2) l=true:=by rw[hsp]; simp [spOk]
  unfold setE
  rw[if_pos hs0]
  by_cases c:64 < l.length
  ·have c':(64:Int) < (l.length:Int):=by omega
   rw[if_pos c]
   simp only[zX,Nat.reduceShiftRight,Nat.reduceMod,Nat.reduceLT,Nat.reduceMul,Nat.reduceSub,Int.reduceToNat,Int.reduceNeg,Int.reduceLT,Int.reduceLE,Int.reduceEq,Nat.reduceEqDiff,Nat.reduceAdd,Nat.reduceLeDiff,reduceIte,reduceCtorEq,Nat.reduceBEq,i64,iD,bD,h0,h3,hlt',c',gt_iff_lt]
  ·have c':¬(64:Int) < (l.length:Int):=by omega
   rw[if_neg c]
   simp only[zX,Nat.reduceShiftRight,Nat.reduceMod,Nat.reduceLT,Nat.reduceMul,Nat.reduceSub,Int.reduceToNat,Int.reduceNeg,Int.reduceLT,Int.reduceLE,Int.reduceEq,Nat.reduceEqDiff,Nat.reduceAdd,Nat.reduceLeDiff,reduceIte,reduceCtorEq,Nat.reduceBEq,i64,iD,bD,h0,h3,hlt',c',gt_iff_lt]
theorem setsValid_ok (l:List (Int × Int)) (hl:l.length≤1000000000):PureOK prog 111 [.d (.sl (l.map spanC))] (i64 (setE l)):=by
 refine fn_ok func111 rfl ntmps111 results111 rfl 0 253 (by simp) (by simp) ?_
 simp only[zX,Nat.reduceShiftRight,Nat.reduceMod,Nat.reduceLT,Nat.reduceMul,Nat.reduceSub,Int.reduceToNat,Int.reduceNeg,Int.reduceLT,Int.reduceLE,Int.reduceEq,Nat.reduceEqDiff,Nat.reduceAdd,Nat.reduceLeDiff,reduceIte,reduceCtorEq,Nat.reduceBEq,i64]
 refine loop_rule (fun n e s=>∃i:Nat,n=l.length - i∧i≤l.length∧e 0=.d (.sl (l.map spanC))∧e 5=.d (.sl (l.map spanC))∧e 6=i64 l.length∧e 7=i64 i∧s=[]∧spOk 1114111 (-2) l=spOk 1114111 (prevHi l i) (l.drop i)∧(0 < i→0≤prevHi l i∧prevHi l i≤1114111))
  ⟨_,_,_,Cln.refl,0,rfl,by omega,rfl,rfl,rfl,rfl,rfl,rfl,fun h=>absurd h (by omega)⟩ ?_
 rintro n e s ⟨i,rfl,hi,h0,h5,h6,h3,rfl,hsp,hpv⟩
 rcases Nat.lt_or_ge i l.length with hlt | hge
 ·obtain⟨k,hk⟩:∃k,l[i]?=some k:=⟨_,List.getElem?_eq_getElem hlt⟩
  have hsp:=spOk_next hk hsp
  have hp1:prevHi l (i + 1)=k.2:=by simp [prevHi,hk]
  have hg:=right_ok k
  have hlt':(i:Int) < l.length:=by omega
  simp only[i64,bV] at hg
  by_cases c1:goodS k=true
  ·have c1':=of_decide_eq_true c1
   rw[c1] at hg
   cases i with
   | zero =>
    simp only[zX,Nat.reduceShiftRight,Nat.reduceMod,Nat.reduceLT,Nat.reduceMul,Nat.reduceSub,Int.reduceToNat,Int.reduceNeg,Int.reduceLT,Int.reduceLE,Int.reduceEq,Nat.reduceEqDiff,Nat.reduceAdd,Nat.reduceLeDiff,reduceIte,reduceCtorEq,Nat.reduceBEq,i64,iD,bD,spanC,h0,h5,h6,h3,hlt',hk]
    refine draw_c mix [] [] (by rfl) ?_
    simp only[zX,Nat.reduceShiftRight,Nat.reduceMod,Nat.reduceLT,Nat.reduceMul,Nat.reduceSub,Int.reduceToNat,Int.reduceNeg,Int.reduceLT,Int.reduceLE,Int.reduceEq,Nat.reduceEqDiff,Nat.reduceAdd,Nat.reduceLeDiff,reduceIte,reduceCtorEq,Nat.reduceBEq,i64,iD,bD,spanC,h0,h5,h6,h3,hlt',hk,Bool.not_true,Int.natCast_zero,gt_iff_lt]
    refine callC_pure hg rfl rfl ?_
    simp only[zX,Nat.reduceShiftRight,Nat.reduceMod,Nat.reduceLT,Nat.reduceMul,Nat.reduceSub,Int.reduceToNat,Int.reduceNeg,Int.reduceLT,Int.reduceLE,Int.reduceEq,Nat.reduceEqDiff,Nat.reduceAdd,Nat.reduceLeDiff,reduceIte,reduceCtorEq,Nat.reduceBEq,i64,iD,bD,spanC,h0,h5,h6,h3,hlt',hk,Bool.not_true,Int.natCast_zero,gt_iff_lt]
    refine⟨l.length - 1,_,_,by omega,Cln.cut (s':=[]) 0 (by omega) rfl rfl [0,5,6,7] (by simp [updE,trimE_app,refsV,h0,h5,h6,h3,i64]),1,rfl,hlt,?_,?_,?_,?_,rfl,?_,?_⟩ <;> (try simp only[zU,Nat.reduceBEq,Nat.reduceShiftRight,Nat.reduceMod,Nat.reduceEqDiff,reduceIte])
    ·exact h0
    ·exact h5
    ·exact h6
    ·rw[w64 _ (by omega)]; rfl
    ·rw[hsp,hp1,show decide (0≤k.1∧k.1≤k.2∧k.2≤1114111∧prevHi l 0 + 1 < k.1)=true from decide_eq_true ⟨c1'.1,c1'.2.1,c1'.2.2,by show (-2:Int) + 1 < k.1; omega⟩]; rfl
    ·intro _; rw[hp1]; omega
   | succ j =>
    obtain⟨kp,hkp⟩:∃k,l[j]?=some k:=⟨_,List.getElem?_eq_getElem (by omega:j < l.length)⟩
    have hpe:prevHi l (j + 1)=kp.2:=by simp [prevHi,hkp]
    have hpv:=hpv (by omega)
    rw[hpe] at hpv hsp
    have w1:IntKind.i64.wrap (((j + 1:Nat):Int) - 1)=(j:Int):=by rw[w64 _ (by omega)]; omega
    have w2:IntKind.i64.wrap (k.1 - kp.2)=k.1 - kp.2:=w64 _ (by omega)
    have w3:IntKind.i64.wrap (kp.2 + 2)=kp.2 + 2:=w64 _ (by omega)
    have p0:(0:Int) < ((j + 1:Nat):Int):=by omega
    have q1:(0:Int)≤(j:Int):=by omega
    have q2:(j:Int) < l.length:=by omega
    by_cases c2:k.1 < kp.2 + 2
    ·have c2':=eq_true c2
     simp only[zX,Nat.reduceShiftRight,Nat.reduceMod,Nat.reduceLT,Nat.reduceMul,Nat.reduceSub,Int.reduceToNat,Int.reduceNeg,Int.reduceLT,Int.reduceLE,Int.reduceEq,Nat.reduceEqDiff,Nat.reduceAdd,Nat.reduceLeDiff,reduceIte,reduceCtorEq,Nat.reduceBEq,i64,iD,bD,spanC,h0,h5,h6,h3,hlt',hk,hkp,w1,w2,w3,p0,q1,q2,Bool.not_true,gt_iff_lt]
     refine draw_c mix [] [] (by rfl) ?_
     simp only[zX,Nat.reduceShiftRight,Nat.reduceMod,Nat.reduceLT,Nat.reduceMul,Nat.reduceSub,Int.reduceToNat,Int.reduceNeg,Int.reduceLT,Int.reduceLE,Int.reduceEq,Nat.reduceEqDiff,Nat.reduceAdd,Nat.reduceLeDiff,reduceIte,reduceCtorEq,Nat.reduceBEq,i64,iD,bD,spanC,h0,h5,h6,h3,hlt',hk,hkp,w1,w2,w3,p0,q1,q2,c2',Bool.not_true,gt_iff_lt]
     refine callC_pure hg rfl rfl ?_
     simp only[zX,Nat.reduceShiftRight,Nat.reduceMod,Nat.reduceLT,Nat.reduceMul,Nat.reduceSub,Int.reduceToNat,Int.reduceNeg,Int.reduceLT,Int.reduceLE,Int.reduceEq,Nat.reduceEqDiff,Nat.reduceAdd,Nat.reduceLeDiff,reduceIte,reduceCtorEq,Nat.reduceBEq,i64,iD,bD,spanC,h0,h5,h6,h3,hlt',hk,hkp,w1,w2,w3,p0,q1,q2,c2',Bool.not_true,gt_iff_lt]
     have:setE l=1:=by
      unfold setE
      rw[if_neg]
      rw[hsp,decide_eq_false (by omega)]; simp
     rw[this]
    ·have c2':=c2
     simp only[zX,Nat.reduceShiftRight,Nat.reduceMod,Nat.reduceLT,Nat.reduceMul,Nat.reduceSub,Int.reduceToNat,Int.reduceNeg,Int.reduceLT,Int.reduceLE,Int.reduceEq,Nat.reduceEqDiff,Nat.reduceAdd,Nat.reduceLeDiff,reduceIte,reduceCtorEq,Nat.reduceBEq,i64,iD,bD,spanC,h0,h5,h6,h3,hlt',hk,hkp,w1,w2,w3,p0,q1,q2,Bool.not_true,gt_iff_lt]
     refine draw_c mix [] [] (by rfl) ?_
     simp only[zX,Nat.reduceShiftRight,Nat.reduceMod,Nat.reduceLT,Nat.reduceMul,Nat.reduceSub,Int.reduceToNat,Int.reduceNeg,Int.reduceLT,Int.reduceLE,Int.reduceEq,Nat.reduceEqDiff,Nat.reduceAdd,Nat.reduceLeDiff,reduceIte,reduceCtorEq,Nat.reduceBEq,i64,iD,bD,spanC,h0,h5,h6,h3,hlt',hk,hkp,w1,w2,w3,p0,q1,q2,c2',Bool.not_true,gt_iff_lt]
     refine callC_pure hg rfl rfl ?_
     simp only[zX,Nat.reduceShiftRight,Nat.reduceMod,Nat.reduceLT,Nat.reduceMul,Nat.reduceSub,Int.reduceToNat,Int.reduceNeg,Int.reduceLT,Int.reduceLE,Int.reduceEq,Nat.reduceEqDiff,Nat.reduceAdd,Nat.reduceLeDiff,reduceIte,reduceCtorEq,Nat.reduceBEq,i64,iD,bD,spanC,h0,h5,h6,h3,hlt',hk,hkp,w1,w2,w3,p0,q1,q2,c2',Bool.not_true,gt_iff_lt]
     refine⟨l.length - (j + 1 + 1),_,_,by omega,Cln.cut (s':=[]) 0 (by omega) rfl rfl [0,5,6,7] (by simp [updE,trimE_app,refsV,h0,h5,h6,h3,i64]),j + 1 + 1,rfl,hlt,?_,?_,?_,?_,rfl,?_,?_⟩ <;> (try simp only[zU,Nat.reduceBEq,Nat.reduceShiftRight,Nat.reduceMod,Nat.reduceEqDiff,reduceIte])
     ·exact h0
     ·exact h5
     ·exact h6
     ·rw[w64 _ (by omega)]; rfl
     ·rw[hsp,hp1,show decide (0≤k.1∧k.1≤k.2∧k.2≤1114111∧kp.2 + 1 < k.1)=true from decide_eq_true (by omega)]; rfl
     ·intro _; rw[hp1]; omega
  ·have c1:goodS k=false:=by simpa using c1
   have c1':=of_decide_eq_false c1
   rw[c1] at hg
   simp only[zX,Nat.reduceShiftRight,Nat.reduceMod,Nat.reduceLT,Nat.reduceMul,Nat.reduceSub,Int.reduceToNat,Int.reduceNeg,Int.reduceLT,Int.reduceLE,Int.reduceEq,Nat.reduceEqDiff,Nat.reduceAdd,Nat.reduceLeDiff,reduceIte,reduceCtorEq,Nat.reduceBEq,i64,iD,bD,spanC,h0,h5,h6,h3,hlt',hk]
   refine draw_c mix [] [] (by rfl) ?_
   simp only[zX,Nat.reduceShiftRight,Nat.reduceMod,Nat.reduceLT,Nat.reduceMul,Nat.reduceSub,Int.reduceToNat,Int.reduceNeg,Int.reduceLT,Int.reduceLE,Int.reduceEq,Nat.reduceEqDiff,Nat.reduceAdd,Nat.reduceLeDiff,reduceIte,reduceCtorEq,Nat.reduceBEq,i64,iD,bD,spanC,h0,h5,h6,h3,hlt',hk,Bool.not_false]
   refine callC_pure hg rfl rfl ?_
   simp only[zX,Nat.reduceShiftRight,Nat.reduceMod,Nat.reduceLT,Nat.reduceMul,Nat.reduceSub,Int.reduceToNat,Int.reduceNeg,Int.reduceLT,Int.reduceLE,Int.reduceEq,Nat.reduceEqDiff,Nat.reduceAdd,Nat.reduceLeDiff,reduceIte,reduceCtorEq,Nat.reduceBEq,i64,iD,bD,spanC,h0,h5,h6,h3,hlt',hk,Bool.not_false]
   have:setE l=1:=by
    unfold setE
    rw[if_neg]
    rw[hsp,decide_eq_false (by omega)]; simp
   rw[this]
 ·have hie:i=l.length:=by omega
  subst hie
  have hlt':¬(l.length:Int) < l.length:=by omega
  have hs0:spOk 1114111 (-2) l=true:=by rw[hsp]; simp [spOk]
  unfold setE
  rw[if_pos hs0]
  by_cases c:64 < l.length
  ·have c':(64:Int) < (l.length:Int):=by omega
   rw[if_pos c]
   simp only[zX,Nat.reduceShiftRight,Nat.reduceMod,Nat.reduceLT,Nat.reduceMul,Nat.reduceSub,Int.reduceToNat,Int.reduceNeg,Int.reduceLT,Int.reduceLE,Int.reduceEq,Nat.reduceEqDiff,Nat.reduceAdd,Nat.reduceLeDiff,reduceIte,reduceCtorEq,Nat.reduceBEq,i64,iD,bD,h0,h5,h6,h3,hlt',c',gt_iff_lt]
  ·have c':¬(64:Int) < (l.length:Int):=by omega
   rw[if_neg c]
   simp only[zX,Nat.reduceShiftRight,Nat.reduceMod,Nat.reduceLT,Nat.reduceMul,Nat.reduceSub,Int.reduceToNat,Int.reduceNeg,Int.reduceLT,Int.reduceLE,Int.reduceEq,Nat.reduceEqDiff,Nat.reduceAdd,Nat.reduceLeDiff,reduceIte,reduceCtorEq,Nat.reduceBEq,i64,iD,bD,h0,h5,h6,h3,hlt',c',gt_iff_lt]
def tgtB (n x:Int):Bool:=decide (0≤x∧x < n)
def hiB (runes:Bool) (l:List (Int × Int)):Bool:=runes||(match l[l.length - 1]? with | none=>true | some s=>decide (s.2≤255))
def opOk (n caps:Int) (runes:Bool) (x:Ins):Bool :=
 if x.op=0 then true else if x.op=1 then decide (setE x.set=0)&&hiB runes x.set else if x.op=2 then tgtB n x.x&&tgtB n x.y else if x.op=3 then tgtB n x.x
 else if x.op=4 then decide (0≤x.n∧x.n < 2 * caps) else if x.op=5 then decide (0≤x.n∧x.n≤5) else false
def unusedB (x:Ins):Bool:=decide ((x.op≠1→x.set.length=0)∧(x.op≠2→x.y=0)∧(x.op≠2→x.op≠3→x.x=0)∧(x.op≠4→x.op≠5→x.n=0))
def insB (n caps:Int) (runes:Bool) (x:Ins):Bool:=unusedB x&&opOk n caps runes x
def lastOp (g:Prg):Int:=match g.ins[g.ins.length - 1]? with | none=>0 | some x=>x.op
def prgE (g:Prg):Int :=
 if 8192 < g.ins.length then 4 else if g.ins.length=0∨g.caps < 0∨9 < g.caps then 1
 else if g.ins.all (insB g.ins.length g.caps g.runes)=true then (if lastOp g=1∨4≤lastOp g then 1 else 0) else 1
end Go.Proofs.Ytdofoappodmcoaa
namespace Go.Proofs.Ytdofoappodmcoaa
open Go.VL Go.Proofs.Try
end Go.Proofs.Ytdofoappodmcoaa
namespace Go.Proofs.Ytdofoappodmcoaa
open Go.VL Go.Proofs.Try
end Go.Proofs.Ytdofoappodmcoaa
