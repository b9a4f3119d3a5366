/- A part of the proof (F61). -/
import Derived.Test.YtffeafbdcakfbaaAQ26
set_option linter.unusedSimpArgs false
set_option linter.unusedVariables false
set_option maxRecDepth 100000
set_option maxHeartbeats 80000000
set_option linter.unusedSimpArgs false
set_option linter.unusedVariables false
namespace Go.Proofs.Ytffeafbdcakfbaa
open Go.VL Go.Proofs.Try
theorem drop_cons {α:Type} {l:List α} {i:Nat} {x:α} (h:l[i]?=some x):l.drop i=x::l.drop (i + 1):=by
 obtain⟨hlt,he⟩:=List.getElem?_eq_some_iff.1 h
 rw[List.drop_eq_getElem_cons hlt,he]
theorem lexI_nil (l:List Int):lexI l []=0:=by cases l <;> rfl
theorem refCmpL_cons (k k':Re) (l l':List Re):Re.cmpL (k::l) (k'::l')=if k.cmp k'≠0 then k.cmp k' else Re.cmpL l l':=by rw[Re.cmpL]
theorem refCompare_ok (a:Re) (ha:a.fine=true):∀b:Re,b.fine=true→PureOK prog 17 [reV a,reV b] (i64 (a.cmp b)):=by
 revert ha
 refine Re.ind (Q:=fun a=>a.fine=true→∀b:Re,b.fine=true→PureOK prog 17 [reV a,reV b] (i64 (a.cmp b))) (fun a ih ha b hb=>?_) a
 obtain⟨ha1,ha2,ha3⟩:=Re.fine_spec ha
 obtain⟨hb1,hb2,hb3⟩:=Re.fine_spec hb
 have hoa:=order_ok a ha1 ha2
 have hob:=order_ok b hb1 hb2
 have hL:(ordL a).length≤3000000000:=by rw[ordL_len]; omega
 have hM:(ordL b).length≤3000000000:=by rw[ordL_len]; omega
 have hz:lexI (ordL a) (ordL b)=0→a.kids.length=b.kids.length:=fun h=>(ordL_inj (cmpN_zero h)).2.2.2.2.2.2.2
 rw[Re.cmp_eq]
 rw[reV_eq a] at hoa
 rw[reV_eq b] at hob
 simp only[iD,bD] at hoa hob
 generalize ordL a=L at *
 generalize ordL b=M at *
 refine fn_ok func17 rfl ntmps17 results17 rfl 0 1023 (by simp) (by simp) ?_
 simp only[zX,Nat.reduceShiftRight,Nat.reduceMod,Nat.reduceLT,Nat.reduceMul,Nat.reduceSub,Int.reduceToNat,Int.reduceNeg,Int.reduceLT,Int.reduceLE,Int.reduceEq,Nat.reduceEqDiff,Nat.reduceAdd,Nat.reduceLeDiff,reduceIte,reduceCtorEq,Nat.reduceBEq,i64,reV_eq a,reV_eq b,iD,bD]
 refine call_pure hoa rfl rfl ?_
 simp only[zX,Nat.reduceShiftRight,Nat.reduceMod,Nat.reduceLT,Nat.reduceMul,Nat.reduceSub,Int.reduceToNat,Int.reduceNeg,Int.reduceLT,Int.reduceLE,Int.reduceEq,Nat.reduceEqDiff,Nat.reduceAdd,Nat.reduceLeDiff,reduceIte,reduceCtorEq,Nat.reduceBEq,i64]
 refine call_pure hob rfl rfl ?_
 simp only[zX,Nat.reduceShiftRight,Nat.reduceMod,Nat.reduceLT,Nat.reduceMul,Nat.reduceSub,Int.reduceToNat,Int.reduceNeg,Int.reduceLT,Int.reduceLE,Int.reduceEq,Nat.reduceEqDiff,Nat.reduceAdd,Nat.reduceLeDiff,reduceIte,reduceCtorEq,Nat.reduceBEq,i64]
 refine loop_rule (fun n e s=>∃i:Nat,n=L.length - i∧i≤L.length∧i≤M.length∧e 2=.rf 0 0 0 0∧e 3=.rf 1 0 0 0∧e 5=.d (intsD L)∧e 6=.d (intsD M)∧e 7=i64 i∧s=[boxR a,boxR b]∧lexI L M=lexI (L.drop i) (M.drop i))
  ⟨_,_,_,Cln.refl,0,rfl,by omega,by omega,rfl,rfl,rfl,rfl,rfl,by rw[boxR,boxR,Re.cells_eq a,Re.cells_eq b]; rfl,rfl⟩ ?_
 rintro n e s ⟨i,rfl,hi,hi2,h2,h3,h5,h6,h7,rfl,hlx⟩
 have hend:¬(i < L.length∧i < M.length)→lexI L M=0:=by
  intro h
  rw[hlx]
  rcases Nat.lt_or_ge i L.length with h' | h'
  ·rw[List.drop_of_length_le (l:=M) (by omega),lexI_nil]
  ·rw[List.drop_of_length_le h']; rfl
 have hgo:¬(i < L.length∧i < M.length)→¬i < L.length∨(i < L.length∧¬i < M.length):=by omega
 by_cases hboth:i < L.length∧i < M.length
 ·obtain⟨hlt,hlt2⟩:=hboth
  obtain⟨x,hx⟩:∃x,L[i]?=some x:=⟨_,List.getElem?_eq_getElem hlt⟩
  obtain⟨y,hy⟩:∃y,M[i]?=some y:=⟨_,List.getElem?_eq_getElem hlt2⟩
  rw[drop_cons hx,drop_cons hy,lexI] at hlx
  simp only[zX,Nat.reduceShiftRight,Nat.reduceMod,Nat.reduceLT,Nat.reduceMul,Nat.reduceSub,Int.reduceToNat,Int.reduceNeg,Int.reduceLT,Int.reduceLE,Int.reduceEq,Nat.reduceEqDiff,Nat.reduceAdd,Nat.reduceLeDiff,reduceIte,reduceCtorEq,Nat.reduceBEq,i64,h2,h3,h5,h6,h7,hlt,hlt2]
  refine draw_c mix [] [] (by rfl) ?_
  by_cases c1:x < y
  ·rw[if_pos c1] at hlx
   simp only[zX,Nat.reduceShiftRight,Nat.reduceMod,Nat.reduceLT,Nat.reduceMul,Nat.reduceSub,Int.reduceToNat,Int.reduceNeg,Int.reduceLT,Int.reduceLE,Int.reduceEq,Nat.reduceEqDiff,Nat.reduceAdd,Nat.reduceLeDiff,reduceIte,reduceCtorEq,Nat.reduceBEq,i64,iD,h2,h3,h5,h6,h7,hlt,hlt2,hx,hy,c1]
   rw[hlx]
   all_goals first | exact⟨rfl,rfl⟩ | exact⟨rfl,trivial⟩ | rfl | trivial | (rw[reV_eq]; rfl)
  rw[if_neg c1] at hlx
  simp only[zX,Nat.reduceShiftRight,Nat.reduceMod,Nat.reduceLT,Nat.reduceMul,Nat.reduceSub,Int.reduceToNat,Int.reduceNeg,Int.reduceLT,Int.reduceLE,Int.reduceEq,Nat.reduceEqDiff,Nat.reduceAdd,Nat.reduceLeDiff,reduceIte,reduceCtorEq,Nat.reduceBEq,i64,iD,h2,h3,h5,h6,h7,hlt,hlt2,hx,hy,c1]
  refine draw_c mix [] [] (by rfl) ?_
  by_cases c2:y < x
  ·rw[if_pos c2] at hlx
   simp only[zX,Nat.reduceShiftRight,Nat.reduceMod,Nat.reduceLT,Nat.reduceMul,Nat.reduceSub,Int.reduceToNat,Int.reduceNeg,Int.reduceLT,Int.reduceLE,Int.reduceEq,Nat.reduceEqDiff,Nat.reduceAdd,Nat.reduceLeDiff,reduceIte,reduceCtorEq,Nat.reduceBEq,i64,iD,h2,h3,h5,h6,h7,hlt,hlt2,hx,hy,c2]
   rw[hlx]
   all_goals first | exact⟨rfl,rfl⟩ | exact⟨rfl,trivial⟩ | rfl | trivial | (rw[reV_eq]; rfl)
  rw[if_neg c2] at hlx
  simp only[zX,Nat.reduceShiftRight,Nat.reduceMod,Nat.reduceLT,Nat.reduceMul,Nat.reduceSub,Int.reduceToNat,Int.reduceNeg,Int.reduceLT,Int.reduceLE,Int.reduceEq,Nat.reduceEqDiff,Nat.reduceAdd,Nat.reduceLeDiff,reduceIte,reduceCtorEq,Nat.reduceBEq,i64,iD,h2,h3,h5,h6,h7,hlt,hlt2,hx,hy,c2]
  refine⟨L.length - (i + 1),_,_,by omega,Cln.refl,i + 1,rfl,hlt,hlt2,?_,?_,?_,?_,?_,rfl,hlx⟩ <;> (try simp only[zU,Nat.reduceBEq,Nat.reduceShiftRight,Nat.reduceMod,Nat.reduceEqDiff,reduceIte])
  ·exact h2
  ·exact h3
  ·exact h5
  ·exact h6
  ·rw[w64 _ (by omega)]; rfl
 have h0:=hend hboth
 have hkl:=hz h0
 rw[if_neg (by simpa using h0)]
 clear hlx hend hoa hob
 rcases hgo hboth with c | ⟨c,c'⟩
 all_goals first | (simp only[zX,Nat.reduceShiftRight,Nat.reduceMod,Nat.reduceLT,Nat.reduceMul,Nat.reduceSub,Int.reduceToNat,Int.reduceNeg,Int.reduceLT,Int.reduceLE,Int.reduceEq,Nat.reduceEqDiff,Nat.reduceAdd,Nat.reduceLeDiff,reduceIte,reduceCtorEq,Nat.reduceBEq,i64,h2,h3,h5,h6,h7,c,c']) | (simp only[zX,Nat.reduceShiftRight,Nat.reduceMod,Nat.reduceLT,Nat.reduceMul,Nat.reduceSub,Int.reduceToNat,Int.reduceNeg,Int.reduceLT,Int.reduceLE,Int.reduceEq,Nat.reduceEqDiff,Nat.reduceAdd,Nat.reduceLeDiff,reduceIte,reduceCtorEq,Nat.reduceBEq,i64,h2,h3,h5,h6,h7,c])
 all_goals
  refine loop_rule (fun n e s=>∃i:Nat,n=a.kids.length - i∧i≤a.kids.length∧e 2=.rf 0 0 0 0∧e 3=.rf 1 0 0 0∧e 8=i64 i∧s=[boxR a,boxR b]∧Re.cmpL a.kids b.kids=Re.cmpL (a.kids.drop i) (b.kids.drop i))
   ⟨_,_,_,Cln.refl,0,rfl,by omega,?_,?_,rfl,rfl,rfl⟩ ?_ <;> (try simp only[zU,Nat.reduceBEq,Nat.reduceShiftRight,Nat.reduceMod,Nat.reduceEqDiff,reduceIte])
  ·exact h2
  ·exact h3
  clear h2 h3 h5 h6 h7
  rintro n e s ⟨i,rfl,hi,h2,h3,h8,rfl,hlx⟩
  rcases Nat.lt_or_ge i a.kids.length with hlt | hge
  ·have hltb:i < b.kids.length:=by omega
   obtain⟨x,hx⟩:∃x,a.kids[i]?=some x:=⟨_,List.getElem?_eq_getElem hlt⟩
   obtain⟨y,hy⟩:∃y,b.kids[i]?=some y:=⟨_,List.getElem?_eq_getElem hltb⟩
   have hmx:=List.mem_of_getElem? hx
   have hmy:=List.mem_of_getElem? hy
   have hrec:=ih x hmx (ha3 x hmx) y (hb3 y hmy)
   rw[drop_cons hx,drop_cons hy,refCmpL_cons] at hlx
   generalize x.cmp y=d at *
   simp only[zX,Nat.reduceShiftRight,Nat.reduceMod,Nat.reduceLT,Nat.reduceMul,Nat.reduceSub,Int.reduceToNat,Int.reduceNeg,Int.reduceLT,Int.reduceLE,Int.reduceEq,Nat.reduceEqDiff,Nat.reduceAdd,Nat.reduceLeDiff,reduceIte,reduceCtorEq,Nat.reduceBEq,i64,h2,h3,h8,boxR,Re.cells_eq a,Re.cells_eq b,hlt,iD,bD]
   refine draw_c mix [] [] (by rfl) ?_
   simp only[zX,Nat.reduceShiftRight,Nat.reduceMod,Nat.reduceLT,Nat.reduceMul,Nat.reduceSub,Int.reduceToNat,Int.reduceNeg,Int.reduceLT,Int.reduceLE,Int.reduceEq,Nat.reduceEqDiff,Nat.reduceAdd,Nat.reduceLeDiff,reduceIte,reduceCtorEq,Nat.reduceBEq,i64,h2,h3,h8,hlt,hltb,hx,hy,iD,bD]
   refine callC_pure hrec (by simp [refsV,refsV.go,reV_eq,i64,bV,reEl]) (by simp [refsV,refsV.go,reV_eq,i64,bV,reEl]) ?_
   by_cases hd:d=0
   ·rw[if_neg (by simpa using hd)] at hlx
    simp only[zX,Nat.reduceShiftRight,Nat.reduceMod,Nat.reduceLT,Nat.reduceMul,Nat.reduceSub,Int.reduceToNat,Int.reduceNeg,Int.reduceLT,Int.reduceLE,Int.reduceEq,Nat.reduceEqDiff,Nat.reduceAdd,Nat.reduceLeDiff,reduceIte,reduceCtorEq,Nat.reduceBEq,i64,h2,h3,h8,hd]
    refine⟨a.kids.length - (i + 1),_,_,by omega,Cln.refl,i + 1,rfl,hlt,?_,?_,?_,rfl,hlx⟩ <;> (try simp only[zU,Nat.reduceBEq,Nat.reduceShiftRight,Nat.reduceMod,Nat.reduceEqDiff,reduceIte])
    ·exact h2
    ·exact h3
    ·rw[w64 _ (by omega)]; rfl
   ·rw[if_pos hd] at hlx
    rw[hlx]
    simp only[zX,Nat.reduceShiftRight,Nat.reduceMod,Nat.reduceLT,Nat.reduceMul,Nat.reduceSub,Int.reduceToNat,Int.reduceNeg,Int.reduceLT,Int.reduceLE,Int.reduceEq,Nat.reduceEqDiff,Nat.reduceAdd,Nat.reduceLeDiff,reduceIte,reduceCtorEq,Nat.reduceBEq,i64,h2,h3,h8,hd]
    all_goals first | exact⟨rfl,rfl⟩ | exact⟨rfl,trivial⟩ | rfl | trivial | (rw[reV_eq]; rfl)
  ·have hie:i=a.kids.length:=by omega
   subst hie
   rw[List.drop_length] at hlx
   rw[hlx]
   simp only[zX,Nat.reduceShiftRight,Nat.reduceMod,Nat.reduceLT,Nat.reduceMul,Nat.reduceSub,Int.reduceToNat,Int.reduceNeg,Int.reduceLT,Int.reduceLE,Int.reduceEq,Nat.reduceEqDiff,Nat.reduceAdd,Nat.reduceLeDiff,reduceIte,reduceCtorEq,Nat.reduceBEq,i64,h2,h3,h8,boxR,Re.cells_eq a,Re.cells_eq b,Nat.lt_irrefl,iD,bD]
   all_goals first | exact⟨rfl,rfl⟩ | exact⟨rfl,trivial⟩ | rfl | trivial | (rw[reV_eq]; rfl)
theorem sameInts_ok (a b:List Int) (ha:a.length≤1000000000):PureOK prog 11 [.d (intsD a),.d (intsD b)] (bV (decide (a=b))):=by
 refine fn_ok func11 rfl ntmps11 results11 rfl 0 51 (by simp) (by simp) ?_
 by_cases hl:(a.length:Int)=b.length
 rotate_left
 ·simp only[zX,Nat.reduceShiftRight,Nat.reduceMod,Nat.reduceLT,Nat.reduceMul,Nat.reduceSub,Int.reduceToNat,Int.reduceNeg,Int.reduceLT,Int.reduceLE,Int.reduceEq,Nat.reduceEqDiff,Nat.reduceAdd,Nat.reduceLeDiff,reduceIte,reduceCtorEq,Nat.reduceBEq,intsD,hl]
  rw[decide_eq_false (fun h=>hl (by rw[h]))]; rfl
 simp only[zX,Nat.reduceShiftRight,Nat.reduceMod,Nat.reduceLT,Nat.reduceMul,Nat.reduceSub,Int.reduceToNat,Int.reduceNeg,Int.reduceLT,Int.reduceLE,Int.reduceEq,Nat.reduceEqDiff,Nat.reduceAdd,Nat.reduceLeDiff,reduceIte,reduceCtorEq,Nat.reduceBEq,intsD,hl]
 refine loop_rule (fun n e s=>∃i:Nat,n=a.length - i∧i≤a.length∧e 0=.d (intsD a)∧e 1=.d (intsD b)∧e 5=i64 i∧s=[]∧a.take i=b.take i)
  ⟨_,_,_,Cln.refl,0,rfl,by omega,rfl,rfl,rfl,rfl,rfl⟩ ?_
 rintro n e s ⟨i,rfl,hi,h0,h1,h5,rfl,htk⟩
 rcases Nat.lt_or_ge i a.length with hlt | hge
 ·have hltb:i < b.length:=by omega
  obtain⟨x,hx⟩:∃x,a[i]?=some x:=⟨_,List.getElem?_eq_getElem hlt⟩
  obtain⟨y,hy⟩:∃y,b[i]?=some y:=⟨_,List.getElem?_eq_getElem hltb⟩
  by_cases hxy:x=y
  ·simp only[zX,Nat.reduceShiftRight,Nat.reduceMod,Nat.reduceLT,Nat.reduceMul,Nat.reduceSub,Int.reduceToNat,Int.reduceNeg,Int.reduceLT,Int.reduceLE,Int.reduceEq,Nat.reduceEqDiff,Nat.reduceAdd,Nat.reduceLeDiff,reduceIte,reduceCtorEq,Nat.reduceBEq,i64,intsD,h0,h1,h5,hlt,hltb,hl]
   refine draw_c mix [] [] (by rfl) ?_
   simp only[zX,Nat.reduceShiftRight,Nat.reduceMod,Nat.reduceLT,Nat.reduceMul,Nat.reduceSub,Int.reduceToNat,Int.reduceNeg,Int.reduceLT,Int.reduceLE,Int.reduceEq,Nat.reduceEqDiff,Nat.reduceAdd,Nat.reduceLeDiff,reduceIte,reduceCtorEq,Nat.reduceBEq,i64,intsD,h0,h1,h5,hlt,hltb,hx,hy,iD,hxy]
   refine⟨a.length - (i + 1),_,_,by omega,Cln.refl,i + 1,rfl,hlt,?_,?_,?_,rfl,by rw[take_get hx,take_get hy,htk,hxy]⟩ <;> (try simp only[zU,Nat.reduceBEq,Nat.reduceShiftRight,Nat.reduceMod,Nat.reduceEqDiff,reduceIte])
   ·exact h0
   ·exact h1
   ·rw[w64 _ (by omega)]; rfl
  ·simp only[zX,Nat.reduceShiftRight,Nat.reduceMod,Nat.reduceLT,Nat.reduceMul,Nat.reduceSub,Int.reduceToNat,Int.reduceNeg,Int.reduceLT,Int.reduceLE,Int.reduceEq,Nat.reduceEqDiff,Nat.reduceAdd,Nat.reduceLeDiff,reduceIte,reduceCtorEq,Nat.reduceBEq,i64,intsD,h0,h1,h5,hlt,hltb,hl]
   refine draw_c mix [] [] (by rfl) ?_
   simp only[zX,Nat.reduceShiftRight,Nat.reduceMod,Nat.reduceLT,Nat.reduceMul,Nat.reduceSub,Int.reduceToNat,Int.reduceNeg,Int.reduceLT,Int.reduceLE,Int.reduceEq,Nat.reduceEqDiff,Nat.reduceAdd,Nat.reduceLeDiff,reduceIte,reduceCtorEq,Nat.reduceBEq,i64,intsD,h0,h1,h5,hlt,hltb,hx,hy,iD,hxy]
   rw[decide_eq_false (fun h=>by subst h; rw[hx] at hy; simp only[Option.some.injEq] at hy; exact hxy hy)]
   all_goals first | exact⟨rfl,rfl⟩ | exact⟨rfl,trivial⟩ | rfl | trivial | (rw[reV_eq]; rfl)
 ·have hie:i=a.length:=by omega
  subst hie
  have hab:a=b:=by
   rw[List.take_length,List.take_of_length_le (by omega)] at htk; exact htk
  simp only[zX,Nat.reduceShiftRight,Nat.reduceMod,Nat.reduceLT,Nat.reduceMul,Nat.reduceSub,Int.reduceToNat,Int.reduceNeg,Int.reduceLT,Int.reduceLE,Int.reduceEq,Nat.reduceEqDiff,Nat.reduceAdd,Nat.reduceLeDiff,reduceIte,reduceCtorEq,Nat.reduceBEq,i64,intsD,h0,h1,h5,Nat.lt_irrefl]
  rw[decide_eq_true hab]
  all_goals first | exact⟨rfl,rfl⟩ | exact⟨rfl,trivial⟩ | rfl | trivial | (rw[reV_eq]; rfl)
end Go.Proofs.Ytffeafbdcakfbaa
