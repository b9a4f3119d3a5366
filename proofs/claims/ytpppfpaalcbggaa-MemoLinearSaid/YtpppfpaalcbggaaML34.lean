/- A part of the proof (MM21). -/
import Derived.Test.YtpppfpaalcbggaaML32
set_option linter.unusedSimpArgs false
set_option linter.unusedVariables false
set_option maxRecDepth 100000
set_option maxHeartbeats 80000000
namespace Go.Proofs.Ytpppfpaalcbggaa
open Go.VL
def lsR (x:Int):Re:=.mk 1 [(x,x)] [] 0 0 0 0 false
def livM:Pat:=⟨.mk 2 [] [.mk 4 [] [.mk 3 [] [lsR 97,lsR 97] 0 0 0 0 false] 0 (-1) 0 0 false,lsR 98] 0 0 0 0 false,0,false⟩
def livN:Pat:=⟨.mk 3 [] [lsR 97,lsR 98] 0 0 0 0 false,0,false⟩
theorem livM_run:runM 60 livM [97] 0 100=some (none,11,0):=by kernel_rfl
theorem livN_run:runM 60 livN [98] 0 3=some (some (0,1,[]),3,0):=by kernel_rfl
theorem livM_ok:livM.re.fine=true∧livM.re.every repB=true∧livN.re.fine=true∧livN.re.every repB=true:=by decide +kernel
theorem call_told9 {P:Program} {f:FuncId} {args:List V} (cargs:List V) {s:List VL.Obj} {K:V→List VL.Obj→Prop} (hc:frzV.go s.length s args=some cargs) (h:callWp P f cargs s K):callWp P f args s K:=call_give [] hc h
theorem lset_ok (x:Int):PureOK Try.prog 15 [i64 x] (reV (lsR x)):=by
 refine fn_ok Try.func15 rfl Try.ntmps15 Try.results15 rfl 0 5 (by simp) (by simp) ?_
 simp only[zX,Nat.reduceShiftRight,Nat.reduceMod,Nat.reduceLT,Nat.reduceMul,Nat.reduceSub,Int.reduceToNat,Int.reduceNeg,Int.reduceLT,Int.reduceLE,Int.reduceEq,Nat.reduceEqDiff,Nat.reduceAdd,Nat.reduceLeDiff,reduceIte,reduceCtorEq,Nat.reduceBEq,i64,iD,bD]
 rfl
theorem lives9_ok:PureOK Try.prog 9 [] (bV true):=by
 have b1:=memoRun_ok 60 livM [97] 0 100 livM_ok.1 livM_ok.2.1 (by decide) (by decide) livM_run
 have b2:=memoRun_ok 60 livN [98] 0 3 livM_ok.2.2.1 livM_ok.2.2.2 (by decide) (by decide) livN_run
 have l1:=lset_ok 97
 have l2:=lset_ok 98
 rw[reV_eq] at l1 l2
 simp only[lsR,Re.op,Re.set,Re.kids,Re.mn,Re.mx,Re.mode,Re.n,Re.neg,List.map_cons,List.map_nil,spanC,iD,bD] at l1 l2
 refine fn_ok Try.func9 rfl Try.ntmps9 Try.results9 rfl 0 2043 (by simp) (by simp) ?_
 simp only[zX,Nat.reduceShiftRight,Nat.reduceMod,Nat.reduceLT,Nat.reduceMul,Nat.reduceSub,Int.reduceToNat,Int.reduceNeg,Int.reduceLT,Int.reduceLE,Int.reduceEq,Nat.reduceEqDiff,Nat.reduceAdd,Nat.reduceLeDiff,reduceIte,reduceCtorEq,Nat.reduceBEq,i64,bV,iD,bD]
 refine call_pure l1 rfl rfl ?_
 simp only[zX,Nat.reduceShiftRight,Nat.reduceMod,Nat.reduceLT,Nat.reduceMul,Nat.reduceSub,Int.reduceToNat,Int.reduceNeg,Int.reduceLT,Int.reduceLE,Int.reduceEq,Nat.reduceEqDiff,Nat.reduceAdd,Nat.reduceLeDiff,reduceIte,reduceCtorEq,Nat.reduceBEq,i64,bV,iD,bD]
 refine call_pure l1 rfl rfl ?_
 simp only[zX,Nat.reduceShiftRight,Nat.reduceMod,Nat.reduceLT,Nat.reduceMul,Nat.reduceSub,Int.reduceToNat,Int.reduceNeg,Int.reduceLT,Int.reduceLE,Int.reduceEq,Nat.reduceEqDiff,Nat.reduceAdd,Nat.reduceLeDiff,reduceIte,reduceCtorEq,Nat.reduceBEq,i64,bV,iD,bD]
 refine call_pure l2 rfl rfl ?_
 simp only[zX,Nat.reduceShiftRight,Nat.reduceMod,Nat.reduceLT,Nat.reduceMul,Nat.reduceSub,Int.reduceToNat,Int.reduceNeg,Int.reduceLT,Int.reduceLE,Int.reduceEq,Nat.reduceEqDiff,Nat.reduceAdd,Nat.reduceLeDiff,reduceIte,reduceCtorEq,Nat.reduceBEq,i64,bV,iD,bD]
 refine call_told9 [.ag ((patC livM).map .d),.d (intsD [97]),i64 0,i64 100] rfl ?_
 refine call_pure b1 rfl rfl ?_
 simp only[zX,Nat.reduceShiftRight,Nat.reduceMod,Nat.reduceLT,Nat.reduceMul,Nat.reduceSub,Int.reduceToNat,Int.reduceNeg,Int.reduceLT,Int.reduceLE,Int.reduceEq,Nat.reduceEqDiff,Nat.reduceAdd,Nat.reduceLeDiff,reduceIte,reduceCtorEq,Nat.reduceBEq,i64,bV,iD,bD,runMV]
 refine call_pure l1 rfl rfl ?_
 simp only[zX,Nat.reduceShiftRight,Nat.reduceMod,Nat.reduceLT,Nat.reduceMul,Nat.reduceSub,Int.reduceToNat,Int.reduceNeg,Int.reduceLT,Int.reduceLE,Int.reduceEq,Nat.reduceEqDiff,Nat.reduceAdd,Nat.reduceLeDiff,reduceIte,reduceCtorEq,Nat.reduceBEq,i64,bV,iD,bD]
 refine call_pure l2 rfl rfl ?_
 simp only[zX,Nat.reduceShiftRight,Nat.reduceMod,Nat.reduceLT,Nat.reduceMul,Nat.reduceSub,Int.reduceToNat,Int.reduceNeg,Int.reduceLT,Int.reduceLE,Int.reduceEq,Nat.reduceEqDiff,Nat.reduceAdd,Nat.reduceLeDiff,reduceIte,reduceCtorEq,Nat.reduceBEq,i64,bV,iD,bD]
 refine call_told9 [.ag ((patC livN).map .d),.d (intsD [98]),i64 0,i64 3] rfl ?_
 refine call_pure b2 rfl rfl ?_
 simp only[zX,Nat.reduceShiftRight,Nat.reduceMod,Nat.reduceLT,Nat.reduceMul,Nat.reduceSub,Int.reduceToNat,Int.reduceNeg,Int.reduceLT,Int.reduceLE,Int.reduceEq,Nat.reduceEqDiff,Nat.reduceAdd,Nat.reduceLeDiff,reduceIte,reduceCtorEq,Nat.reduceBEq,i64,bV,iD,bD,runMV]
end Go.Proofs.Ytpppfpaalcbggaa
