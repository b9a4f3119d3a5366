/- A part of the proof (F94). -/
import Derived.Test.YtafbdphblilenaaAB26
set_option linter.unusedSimpArgs false
set_option linter.unusedVariables false
set_option maxRecDepth 100000
set_option maxHeartbeats 80000000
set_option linter.unusedSimpArgs false
set_option linter.unusedVariables false
namespace Go.Proofs.Ytafbdphblilenaa
open Go.VL Go.Proofs.Try
def rnV:Option (Re × Nat)→V
 | some (re,k)=>.tu [reV re,i64 k,bV true]
 | none=>.tu [reV (.mk 0 [] [] 0 0 0 0 false),i64 0,bV false]
def nodeBad (H T:List Int) (k:Int):Bool:=decide (H.length % 2=0)||decide (T.length≠5)||decide (T.getD 4 0 < 0)||decide (1 < T.getD 4 0)||decide (k < 0)||decide (256 < k)
theorem rNode_bad {xs:List Nat} {w:Int} (h:nodeBad (rIsW xs w).1 (rIsW (rIsW xs w).2.1 (rIsW xs w).2.2).1 (rI (rIsW (rIsW xs w).2.1 (rIsW xs w).2.2).2.1 (rIsW (rIsW xs w).2.1 (rIsW xs w).2.2).2.2).1=true):(rNode xs w).1=none:=by
 unfold rNode
 simp only
 generalize rIsW xs w=H at *
 generalize rIsW H.2.1 H.2.2=T at *
 generalize rI T.2.1 T.2.2=K at *
 split
 ·rename_i op sp mn mx mode n neg h1 h2
  rw[h1,h2] at h
  split
  ·rfl
  ·rename_i hc
   exfalso
   simp only[nodeBad,List.length_cons,List.length_nil,List.getD_cons_succ,List.getD_cons_zero,Bool.or_eq_true,decide_eq_true_eq] at h
   omega
 ·rfl
theorem rNode_good {xs:List Nat} {w:Int} (h:nodeBad (rIsW xs w).1 (rIsW (rIsW xs w).2.1 (rIsW xs w).2.2).1 (rI (rIsW (rIsW xs w).2.1 (rIsW xs w).2.2).2.1 (rIsW (rIsW xs w).2.1 (rIsW xs w).2.2).2.2).1=false) :
  ∃(op:Int) (L:List (Int × Int)) (mn mx mode n neg:Int) (k:Nat),(rIsW xs w).1=op::L.flatMap (fun s=>[s.1,s.2])∧(rIsW (rIsW xs w).2.1 (rIsW xs w).2.2).1=[mn,mx,mode,n,neg] ∧
   (rI (rIsW (rIsW xs w).2.1 (rIsW xs w).2.2).2.1 (rIsW (rIsW xs w).2.1 (rIsW xs w).2.2).2.2).1=(k:Int)∧k≤256∧¬neg < 0∧¬1 < neg∧(rNode xs w).1=some (.mk op L [] mn mx mode n (decide (neg=1)),k):=by
 unfold rNode
 simp only
 generalize rIsW xs w=H at *
 generalize rIsW H.2.1 H.2.2=T at *
 generalize rI T.2.1 T.2.2=K at *
 obtain⟨H1,H2⟩:=H
 obtain⟨T1,T2⟩:=T
 simp only[nodeBad,Bool.or_eq_false_iff,decide_eq_false_iff_not] at h
 obtain⟨⟨⟨⟨⟨a1,a2⟩,a3⟩,a4⟩,a5⟩,a6⟩:=h
 match H1,T1,a1,a2,a3,a4 with
 | [],_,a1,_,_,_=>exact absurd rfl a1
 | op::sp,[mn,mx,mode,n,neg],a1,_,a3,a4 =>
  simp only[List.getD_cons_succ,List.getD_cons_zero,List.length_cons] at a1 a3 a4
  have hsp:sp.length % 2=0:=by omega
  refine⟨op,pairsI sp,mn,mx,mode,n,neg,K.1.toNat,?_,rfl,by omega,by omega,a3,a4,?_⟩
  ·rw[flat_pairsI (sp.length / 2) sp (by omega)]
  ·simp only
   rw[if_neg (by omega)]
 | op::sp,[],_,a2,_,_=>exact absurd (by simp) a2
 | op::sp,[_],_,a2,_,_=>exact absurd (by simp) a2
 | op::sp,[_,_],_,a2,_,_=>exact absurd (by simp) a2
 | op::sp,[_,_,_],_,a2,_,_=>exact absurd (by simp) a2
 | op::sp,[_,_,_,_],_,a2,_,_=>exact absurd (by simp) a2
 | op::sp,_::_::_::_::_::_::_,_,a2,_,_=>exact absurd (by simp) a2
theorem flat_two:∀(L:List (Int × Int)) (j:Nat) (x:Int × Int),L[j]?=some x→(L.flatMap fun s=>[s.1,s.2])[2 * j]?=some x.1∧(L.flatMap fun s=>[s.1,s.2])[2 * j + 1]?=some x.2
 | [],j,x,h=>by simp at h
 | y::L,0,x,h=>by
  simp only[List.getElem?_cons_zero,Option.some.injEq] at h
  subst h
  exact⟨rfl,rfl⟩
 | y::L,j + 1,x,h=>by
  rw[List.getElem?_cons_succ] at h
  have ih:=flat_two L j x h
  rw[List.flatMap_cons]
  exact⟨ih.1,ih.2⟩
theorem flat_two_len:∀(L:List (Int × Int)),(L.flatMap fun s=>[s.1,s.2]).length=2 * L.length
 | []=>rfl
 | y::L=>by rw[List.flatMap_cons,List.length_append,flat_two_len L,List.length_cons]; simp only[List.length_cons,List.length_nil]; omega
def zeroO8:VL.Obj:=⟨0,true,8,[[i64 0,.fu [],.fu [],i64 0,i64 0,i64 0,i64 0,bV false]]⟩
theorem lenBad {H:List Int}:((H.length:Int).tmod 2=0) ↔ H.length % 2=0:=by
 rw[Int.tmod_eq_emod_of_nonneg (by omega)]
 omega
theorem readNode_bad (bs xs:List Nat) (w:Int) (hs:xs <:+ bs) (hb:bs.length≤1000000000) (hB:∀b∈bs,b < 256) (hbad:nodeBad (rIsW xs w).1 (rIsW (rIsW xs w).2.1 (rIsW xs w).2.2).1 (rI (rIsW (rIsW xs w).2.1 (rIsW xs w).2.2).2.1 (rIsW (rIsW xs w).2.1 (rIsW xs w).2.2).2.2).1=true) :
  callWp prog 93 [.rf 0 0 0 0] [rdO bs xs w] fun v s=>v=rnV none∧s=[rdO bs (rNode xs w).2.1 (rNode xs w).2.2]:=by
 have k1:=rdInts_ok bs xs w hs hb hB
 have s1:=(rIsW_suf xs w).trans hs
 rw[rNode_rest]
 generalize rIsW xs w=H at *
 have k2:=rdInts_ok bs H.2.1 H.2.2 s1 hb hB
 have s2:=(rIsW_suf H.2.1 H.2.2).trans s1
 generalize rIsW H.2.1 H.2.2=T at *
 have k3:=rdInt_ok bs T.2.1 T.2.2 s2 hb hB
 generalize rI T.2.1 T.2.2=K at *
 obtain⟨H1,H2,H3⟩:=H
 obtain⟨T1,T2,T3⟩:=T
 obtain⟨K1,K2,K3⟩:=K
 simp only[i64,intsD] at *
 by_cases c1:H1.length % 2=0
 ·have f1:(((H1.length:Int)).tmod 2=0)=True:=eq_true (lenBad.2 c1)
  refine fn_ok func93 rfl ntmps93 results93 rfl 1 1021 (by simp) (by simp) ?_
  simp only[zX,Nat.reduceShiftRight,Nat.reduceMod,Nat.reduceLT,Nat.reduceMul,Nat.reduceSub,Int.reduceToNat,Int.reduceNeg,Int.reduceLT,Int.reduceLE,Int.reduceEq,Nat.reduceEqDiff,Nat.reduceAdd,Nat.reduceLeDiff,reduceIte,reduceCtorEq,Nat.reduceBEq,i64]
  refine call_one k1 rfl rfl rfl rfl rfl rfl ?_
  simp only[zX,Nat.reduceShiftRight,Nat.reduceMod,Nat.reduceLT,Nat.reduceMul,Nat.reduceSub,Int.reduceToNat,Int.reduceNeg,Int.reduceLT,Int.reduceLE,Int.reduceEq,Nat.reduceEqDiff,Nat.reduceAdd,Nat.reduceLeDiff,reduceIte,reduceCtorEq,Nat.reduceBEq,i64]
  refine call_one k2 rfl rfl rfl rfl rfl rfl ?_
  simp only[zX,Nat.reduceShiftRight,Nat.reduceMod,Nat.reduceLT,Nat.reduceMul,Nat.reduceSub,Int.reduceToNat,Int.reduceNeg,Int.reduceLT,Int.reduceLE,Int.reduceEq,Nat.reduceEqDiff,Nat.reduceAdd,Nat.reduceLeDiff,reduceIte,reduceCtorEq,Nat.reduceBEq,i64]
  refine call_one k3 rfl rfl rfl rfl rfl rfl ?_
  simp only[zX,Nat.reduceShiftRight,Nat.reduceMod,Nat.reduceLT,Nat.reduceMul,Nat.reduceSub,Int.reduceToNat,Int.reduceNeg,Int.reduceLT,Int.reduceLE,Int.reduceEq,Nat.reduceEqDiff,Nat.reduceAdd,Nat.reduceLeDiff,reduceIte,reduceCtorEq,Nat.reduceBEq,i64,List.length_map,f1,decide_true,rdO,rnV,reV_eq]
  all_goals first | exact⟨rfl,rfl⟩ | exact⟨rfl,trivial⟩ | rfl | trivial | (rw[reV_eq]; rfl)
 have f1:(((H1.length:Int)).tmod 2=0)=False:=eq_false (fun h=>c1 (lenBad.1 h))
 by_cases c2:T1.length=5
 case neg =>
  have f2:((T1.length:Int)=5)=False:=eq_false (by omega)
  refine fn_ok func93 rfl ntmps93 results93 rfl 1 1021 (by simp) (by simp) ?_
  simp only[zX,Nat.reduceShiftRight,Nat.reduceMod,Nat.reduceLT,Nat.reduceMul,Nat.reduceSub,Int.reduceToNat,Int.reduceNeg,Int.reduceLT,Int.reduceLE,Int.reduceEq,Nat.reduceEqDiff,Nat.reduceAdd,Nat.reduceLeDiff,reduceIte,reduceCtorEq,Nat.reduceBEq,i64]
  refine call_one k1 rfl rfl rfl rfl rfl rfl ?_
  simp only[zX,Nat.reduceShiftRight,Nat.reduceMod,Nat.reduceLT,Nat.reduceMul,Nat.reduceSub,Int.reduceToNat,Int.reduceNeg,Int.reduceLT,Int.reduceLE,Int.reduceEq,Nat.reduceEqDiff,Nat.reduceAdd,Nat.reduceLeDiff,reduceIte,reduceCtorEq,Nat.reduceBEq,i64]
  refine call_one k2 rfl rfl rfl rfl rfl rfl ?_
  simp only[zX,Nat.reduceShiftRight,Nat.reduceMod,Nat.reduceLT,Nat.reduceMul,Nat.reduceSub,Int.reduceToNat,Int.reduceNeg,Int.reduceLT,Int.reduceLE,Int.reduceEq,Nat.reduceEqDiff,Nat.reduceAdd,Nat.reduceLeDiff,reduceIte,reduceCtorEq,Nat.reduceBEq,i64]
  refine call_one k3 rfl rfl rfl rfl rfl rfl ?_
  simp only[zX,Nat.reduceShiftRight,Nat.reduceMod,Nat.reduceLT,Nat.reduceMul,Nat.reduceSub,Int.reduceToNat,Int.reduceNeg,Int.reduceLT,Int.reduceLE,Int.reduceEq,Nat.reduceEqDiff,Nat.reduceAdd,Nat.reduceLeDiff,reduceIte,reduceCtorEq,Nat.reduceBEq,i64,List.length_map,f1,f2,ne_eq,not_false_eq_true,decide_true,decide_false,rdO,rnV,reV_eq]
  all_goals first | exact⟨rfl,rfl⟩ | exact⟨rfl,trivial⟩ | rfl | trivial | (rw[reV_eq]; rfl)
 obtain⟨x,hx⟩:∃x,T1[4]?=some x:=⟨_,List.getElem?_eq_getElem (by omega)⟩
 have hd:T1.getD 4 0=x:=by rw[List.getD,hx]; rfl
 have f2:((T1.length:Int)=5)=True:=eq_true (by omega)
 have q0:(0:Int)≤4:=by decide
 have q4:(4:Int) < (T1.length:Int):=by omega
 simp only[nodeBad,c1,c2,hd,ne_eq,not_true_eq_false,decide_false,Bool.false_or,Bool.or_eq_true,decide_eq_true_eq] at hbad
 have h4:Int.toNat 4=4:=rfl
 by_cases d1:x < 0
 ·refine fn_ok func93 rfl ntmps93 results93 rfl 1 1021 (by simp) (by simp) ?_
  simp only[zX,Nat.reduceShiftRight,Nat.reduceMod,Nat.reduceLT,Nat.reduceMul,Nat.reduceSub,Int.reduceToNat,Int.reduceNeg,Int.reduceLT,Int.reduceLE,Int.reduceEq,Nat.reduceEqDiff,Nat.reduceAdd,Nat.reduceLeDiff,reduceIte,reduceCtorEq,Nat.reduceBEq,i64]
  refine call_one k1 rfl rfl rfl rfl rfl rfl ?_
  simp only[zX,Nat.reduceShiftRight,Nat.reduceMod,Nat.reduceLT,Nat.reduceMul,Nat.reduceSub,Int.reduceToNat,Int.reduceNeg,Int.reduceLT,Int.reduceLE,Int.reduceEq,Nat.reduceEqDiff,Nat.reduceAdd,Nat.reduceLeDiff,reduceIte,reduceCtorEq,Nat.reduceBEq,i64]
  refine call_one k2 rfl rfl rfl rfl rfl rfl ?_
  simp only[zX,Nat.reduceShiftRight,Nat.reduceMod,Nat.reduceLT,Nat.reduceMul,Nat.reduceSub,Int.reduceToNat,Int.reduceNeg,Int.reduceLT,Int.reduceLE,Int.reduceEq,Nat.reduceEqDiff,Nat.reduceAdd,Nat.reduceLeDiff,reduceIte,reduceCtorEq,Nat.reduceBEq,i64]
  refine call_one k3 rfl rfl rfl rfl rfl rfl ?_
  simp only[zX,Nat.reduceShiftRight,Nat.reduceMod,Nat.reduceLT,Nat.reduceMul,Nat.reduceSub,Int.reduceToNat,Int.reduceNeg,Int.reduceLT,Int.reduceLE,Int.reduceEq,Nat.reduceEqDiff,Nat.reduceAdd,Nat.reduceLeDiff,reduceIte,reduceCtorEq,Nat.reduceBEq,i64,iD,List.length_map,f1,f2,q0,q4,h4,List.getElem?_map,hx,Option.map_some,d1,ne_eq,not_true_eq_false,not_false_eq_true,decide_true,decide_false,rdO,rnV,reV_eq]
  all_goals first | exact⟨rfl,rfl⟩ | exact⟨rfl,trivial⟩ | rfl | trivial | (rw[reV_eq]; rfl)
 by_cases d2:1 < x
 ·refine fn_ok func93 rfl ntmps93 results93 rfl 1 1021 (by simp) (by simp) ?_
  simp only[zX,Nat.reduceShiftRight,Nat.reduceMod,Nat.reduceLT,Nat.reduceMul,Nat.reduceSub,Int.reduceToNat,Int.reduceNeg,Int.reduceLT,Int.reduceLE,Int.reduceEq,Nat.reduceEqDiff,Nat.reduceAdd,Nat.reduceLeDiff,reduceIte,reduceCtorEq,Nat.reduceBEq,i64]
  refine call_one k1 rfl rfl rfl rfl rfl rfl ?_
  simp only[zX,Nat.reduceShiftRight,Nat.reduceMod,Nat.reduceLT,Nat.reduceMul,Nat.reduceSub,Int.reduceToNat,Int.reduceNeg,Int.reduceLT,Int.reduceLE,Int.reduceEq,Nat.reduceEqDiff,Nat.reduceAdd,Nat.reduceLeDiff,reduceIte,reduceCtorEq,Nat.reduceBEq,i64]
  refine call_one k2 rfl rfl rfl rfl rfl rfl ?_
  simp only[zX,Nat.reduceShiftRight,Nat.reduceMod,Nat.reduceLT,Nat.reduceMul,Nat.reduceSub,Int.reduceToNat,Int.reduceNeg,Int.reduceLT,Int.reduceLE,Int.reduceEq,Nat.reduceEqDiff,Nat.reduceAdd,Nat.reduceLeDiff,reduceIte,reduceCtorEq,Nat.reduceBEq,i64]
  refine call_one k3 rfl rfl rfl rfl rfl rfl ?_
  simp only[zX,Nat.reduceShiftRight,Nat.reduceMod,Nat.reduceLT,Nat.reduceMul,Nat.reduceSub,Int.reduceToNat,Int.reduceNeg,Int.reduceLT,Int.reduceLE,Int.reduceEq,Nat.reduceEqDiff,Nat.reduceAdd,Nat.reduceLeDiff,reduceIte,reduceCtorEq,Nat.reduceBEq,i64,iD,List.length_map,f1,f2,q0,q4,h4,List.getElem?_map,hx,Option.map_some,d1,d2,gt_iff_lt,ne_eq,not_true_eq_false,not_false_eq_true,decide_true,decide_false,rdO,rnV,reV_eq]
  all_goals first | exact⟨rfl,rfl⟩ | exact⟨rfl,trivial⟩ | rfl | trivial | (rw[reV_eq]; rfl)
 by_cases d3:K1 < 0
 ·refine fn_ok func93 rfl ntmps93 results93 rfl 1 1021 (by simp) (by simp) ?_
  simp only[zX,Nat.reduceShiftRight,Nat.reduceMod,Nat.reduceLT,Nat.reduceMul,Nat.reduceSub,Int.reduceToNat,Int.reduceNeg,Int.reduceLT,Int.reduceLE,Int.reduceEq,Nat.reduceEqDiff,Nat.reduceAdd,Nat.reduceLeDiff,reduceIte,reduceCtorEq,Nat.reduceBEq,i64]
  refine call_one k1 rfl rfl rfl rfl rfl rfl ?_
  simp only[zX,Nat.reduceShiftRight,Nat.reduceMod,Nat.reduceLT,Nat.reduceMul,Nat.reduceSub,Int.reduceToNat,Int.reduceNeg,Int.reduceLT,Int.reduceLE,Int.reduceEq,Nat.reduceEqDiff,Nat.reduceAdd,Nat.reduceLeDiff,reduceIte,reduceCtorEq,Nat.reduceBEq,i64]
  refine call_one k2 rfl rfl rfl rfl rfl rfl ?_
  simp only[zX,Nat.reduceShiftRight,Nat.reduceMod,Nat.reduceLT,Nat.reduceMul,Nat.reduceSub,Int.reduceToNat,Int.reduceNeg,Int.reduceLT,Int.reduceLE,Int.reduceEq,Nat.reduceEqDiff,Nat.reduceAdd,Nat.reduceLeDiff,reduceIte,reduceCtorEq,Nat.reduceBEq,i64]
  refine call_one k3 rfl rfl rfl rfl rfl rfl ?_
  simp only[zX,Nat.reduceShiftRight,Nat.reduceMod,Nat.reduceLT,Nat.reduceMul,Nat.reduceSub,Int.reduceToNat,Int.reduceNeg,Int.reduceLT,Int.reduceLE,Int.reduceEq,Nat.reduceEqDiff,Nat.reduceAdd,Nat.reduceLeDiff,reduceIte,reduceCtorEq,Nat.reduceBEq,i64,iD,List.length_map,f1,f2,q0,q4,h4,List.getElem?_map,hx,Option.map_some,d1,d2,d3,gt_iff_lt,ne_eq,not_true_eq_false,not_false_eq_true,decide_true,decide_false,rdO,rnV,reV_eq]
  all_goals first | exact⟨rfl,rfl⟩ | exact⟨rfl,trivial⟩ | rfl | trivial | (rw[reV_eq]; rfl)
 have d4:256 < K1:=by omega
 refine fn_ok func93 rfl ntmps93 results93 rfl 1 1021 (by simp) (by simp) ?_
 simp only[zX,Nat.reduceShiftRight,Nat.reduceMod,Nat.reduceLT,Nat.reduceMul,Nat.reduceSub,Int.reduceToNat,Int.reduceNeg,Int.reduceLT,Int.reduceLE,Int.reduceEq,Nat.reduceEqDiff,Nat.reduceAdd,Nat.reduceLeDiff,reduceIte,reduceCtorEq,Nat.reduceBEq,i64]
 refine call_one k1 rfl rfl rfl rfl rfl rfl ?_
 simp only[zX,Nat.reduceShiftRight,Nat.reduceMod,Nat.reduceLT,Nat.reduceMul,Nat.reduceSub,Int.reduceToNat,Int.reduceNeg,Int.reduceLT,Int.reduceLE,Int.reduceEq,Nat.reduceEqDiff,Nat.reduceAdd,Nat.reduceLeDiff,reduceIte,reduceCtorEq,Nat.reduceBEq,i64]
 refine call_one k2 rfl rfl rfl rfl rfl rfl ?_
 simp only[zX,Nat.reduceShiftRight,Nat.reduceMod,Nat.reduceLT,Nat.reduceMul,Nat.reduceSub,Int.reduceToNat,Int.reduceNeg,Int.reduceLT,Int.reduceLE,Int.reduceEq,Nat.reduceEqDiff,Nat.reduceAdd,Nat.reduceLeDiff,reduceIte,reduceCtorEq,Nat.reduceBEq,i64]
 refine call_one k3 rfl rfl rfl rfl rfl rfl ?_
 simp only[zX,Nat.reduceShiftRight,Nat.reduceMod,Nat.reduceLT,Nat.reduceMul,Nat.reduceSub,Int.reduceToNat,Int.reduceNeg,Int.reduceLT,Int.reduceLE,Int.reduceEq,Nat.reduceEqDiff,Nat.reduceAdd,Nat.reduceLeDiff,reduceIte,reduceCtorEq,Nat.reduceBEq,i64,iD,List.length_map,f1,f2,q0,q4,h4,List.getElem?_map,hx,Option.map_some,d1,d2,d3,d4,gt_iff_lt,ne_eq,not_true_eq_false,not_false_eq_true,decide_true,decide_false,rdO,rnV,reV_eq]
 all_goals first | exact⟨rfl,rfl⟩ | exact⟨rfl,trivial⟩ | rfl | trivial | (rw[reV_eq]; rfl)
end Go.Proofs.Ytafbdphblilenaa
