/- A part of the proof (F32 F33). -/
import Derived.Test.YtpppfpaalcbggaaML3
set_option linter.unusedSimpArgs false
set_option linter.unusedVariables false
set_option maxRecDepth 100000
set_option maxHeartbeats 80000000
set_option linter.unusedSimpArgs false
set_option linter.unusedVariables false
namespace Go.Proofs.Ytpppfpaalcbggaa
open Go.VL Go.Proofs.Try
mutual
def Re.usesA:Re→Int→Int
 | .mk op _ kids _ _ mode _ _,a=>Re.usesAL kids (bitV .or .i64 a (usesN op mode (Re.anulL kids)))
def Re.usesAL:List Re→Int→Int
 | [],a=>a
 | k::l,a=>Re.usesAL l (k.usesA a)
end
theorem Re.usesA_eq (re:Re) (a:Int):re.usesA a=Re.usesAL re.kids (bitV .or .i64 a (usesN re.op re.mode (re.kids.map Re.anul))):=by
 cases re; simp [Re.usesA,Re.anulL_eq,Re.op,Re.mode,Re.kids]
theorem Re.usesAL_snoc:∀(l:List Re) (k:Re) (a:Int),Re.usesAL (l++[k]) a=k.usesA (Re.usesAL l a)
 | [],k,a=>by simp [Re.usesAL]
 | x::l,k,a=>by simp only[List.cons_append,Re.usesAL,Re.usesAL_snoc l k]
def UsesOK (re:Re):Prop:=∀c:Int,callWp prog 18 [reEl re,.rf 0 0 0 0,.rf 1 0 0 0] [cntO c,cell2O 18] fun v s=>v=.tu []∧s=[cntO (re.usesA c),cell2O 18]
theorem uses_rec (re:Re) (hs:re.fine=true):UsesOK re:=by
 revert hs
 refine Re.ind (Q:=fun re=>re.fine=true→UsesOK re) (fun re ih hs=>?_) re
 intro c
 obtain⟨hset1,hlen,hfk⟩:=Re.fine_spec hs
 have huo:=usesOf_ok re hs
 rw[reEl,Re.cells_eq re] at huo
 simp only[iD,bD,i64] at huo
 rw[Re.usesA_eq]
 generalize usesN re.op re.mode (re.kids.map Re.anul)=u at *
 refine fn_ok func18 rfl ntmps18 results18 rfl 2 24599 (by simp) (by simp) ?_
 simp only[zW,Nat.reduceShiftRight,Nat.reduceMod,Nat.reduceLT,Nat.reduceMul,Nat.reduceSub,Int.reduceToNat,Int.reduceNeg,Int.reduceLT,Int.reduceLE,Int.reduceEq,Nat.reduceEqDiff,Nat.reduceAdd,Nat.reduceLeDiff,reduceIte,reduceCtorEq,Nat.reduceBEq,i64,cntO,cell2O,reEl,Re.cells_eq re,iD,bD]
 refine draw_c mix [4] [] (by rfl) ?_
 simp only[zW,Nat.reduceShiftRight,Nat.reduceMod,Nat.reduceLT,Nat.reduceMul,Nat.reduceSub,Int.reduceToNat,Int.reduceNeg,Int.reduceLT,Int.reduceLE,Int.reduceEq,Nat.reduceEqDiff,Nat.reduceAdd,Nat.reduceLeDiff,reduceIte,reduceCtorEq,Nat.reduceBEq,i64,cntO,cell2O,reEl,Re.cells_eq re,iD,bD]
 refine callC_pure huo rfl rfl ?_
 simp only[zW,Nat.reduceShiftRight,Nat.reduceMod,Nat.reduceLT,Nat.reduceMul,Nat.reduceSub,Int.reduceToNat,Int.reduceNeg,Int.reduceLT,Int.reduceLE,Int.reduceEq,Nat.reduceEqDiff,Nat.reduceAdd,Nat.reduceLeDiff,reduceIte,reduceCtorEq,Nat.reduceBEq,i64,cntO,cell2O,reEl,Re.cells_eq re,iD,bD]
 refine loop_rule (fun n e s=>∃i:Nat,n=re.kids.length - i∧i≤re.kids.length∧e 0=reEl re∧e 1=.rf 0 0 0 0∧e 2=.rf 1 0 0 0∧e 13=i64 re.kids.length∧e 14=i64 i∧s=[cntO (Re.usesAL (re.kids.take i) (bitV .or .i64 c u)),cell2O 18])
  ⟨_,_,_,Cln.refl,0,rfl,by omega,by simp [reEl,Re.cells_eq re,iD,bD]; rfl,rfl,rfl,rfl,rfl,by simp [Re.usesAL,cntO,cell2O,i64]⟩ ?_
 rintro n e s ⟨i,rfl,hi,h0,h1,h2,h11,h12,rfl⟩
 rcases Nat.lt_or_ge i re.kids.length with hlt | hge
 ·obtain⟨k,hk⟩:∃k,re.kids[i]?=some k:=⟨_,List.getElem?_eq_getElem hlt⟩
  have hm:=List.mem_of_getElem? hk
  have hk0:=ih k hm (hfk k hm) (Re.usesAL (re.kids.take i) (bitV .or .i64 c u))
  simp only[zW,Nat.reduceShiftRight,Nat.reduceMod,Nat.reduceLT,Nat.reduceMul,Nat.reduceSub,Int.reduceToNat,Int.reduceNeg,Int.reduceLT,Int.reduceLE,Int.reduceEq,Nat.reduceEqDiff,Nat.reduceAdd,Nat.reduceLeDiff,reduceIte,reduceCtorEq,Nat.reduceBEq,i64,cntO,cell2O,reEl,Re.cells_eq re,iD,bD,h0,h1,h2,h11,h12,hlt]
  refine draw_c mix [] [(0,[1],[]),(7,[0,1],[0,1])] (by rfl) ?_
  simp only[zW,Nat.reduceShiftRight,Nat.reduceMod,Nat.reduceLT,Nat.reduceMul,Nat.reduceSub,Int.reduceToNat,Int.reduceNeg,Int.reduceLT,Int.reduceLE,Int.reduceEq,Nat.reduceEqDiff,Nat.reduceAdd,Nat.reduceLeDiff,reduceIte,reduceCtorEq,Nat.reduceBEq,i64,cntO,cell2O,reEl,Re.cells_eq re,iD,bD,h0,h1,h2,h11,h12,hlt,hk]
  refine callF_two hk0 (by simp [renV,reEl]) (by simp [refsV,refsV.go,reEl]) rfl rfl rfl rfl rfl rfl rfl ?_
  simp only[zW,Nat.reduceShiftRight,Nat.reduceMod,Nat.reduceLT,Nat.reduceMul,Nat.reduceSub,Int.reduceToNat,Int.reduceNeg,Int.reduceLT,Int.reduceLE,Int.reduceEq,Nat.reduceEqDiff,Nat.reduceAdd,Nat.reduceLeDiff,reduceIte,reduceCtorEq,Nat.reduceBEq,i64,cntO,cell2O,reEl,Re.cells_eq re,iD,bD,h0,h1,h2,h11,h12]
  refine⟨re.kids.length - (i + 1),_,_,by omega,Cln.refl,i + 1,rfl,hlt,?_,?_,?_,?_,?_,?_⟩ <;> (try simp only[zU,Nat.reduceBEq,Nat.reduceShiftRight,Nat.reduceMod,Nat.reduceEqDiff,reduceIte])
  ·simpa [reEl,Re.cells_eq re,iD,bD] using h0
  ·exact h1
  ·exact h2
  ·exact h11
  ·rw[w64 _ (by omega)]; rfl
  ·rw[take_get hk,Re.usesAL_snoc]
 ·have hie:i=re.kids.length:=by omega
  subst hie
  simp only[zW,Nat.reduceShiftRight,Nat.reduceMod,Nat.reduceLT,Nat.reduceMul,Nat.reduceSub,Int.reduceToNat,Int.reduceNeg,Int.reduceLT,Int.reduceLE,Int.reduceEq,Nat.reduceEqDiff,Nat.reduceAdd,Nat.reduceLeDiff,reduceIte,reduceCtorEq,Nat.reduceBEq,i64,cntO,cell2O,reEl,Re.cells_eq re,iD,bD,h0,h1,h2,h11,h12,Nat.lt_irrefl,List.take_length]
theorem uses_ok (re:Re) (hs:re.fine=true):PureOK prog 8 [reV re] (i64 (re.usesA 0)):=by
 refine fn_ok func8 rfl ntmps8 results8 rfl 0 31 (by simp) (by simp) ?_
 simp only[zW,Nat.reduceShiftRight,Nat.reduceMod,Nat.reduceLT,Nat.reduceMul,Nat.reduceSub,Int.reduceToNat,Int.reduceNeg,Int.reduceLT,Int.reduceLE,Int.reduceEq,Nat.reduceEqDiff,Nat.reduceAdd,Nat.reduceLeDiff,reduceIte,reduceCtorEq,Nat.reduceBEq,i64,reV_eq re,iD,bD]
 refine call_give [0] rfl ?_
 refine call_at2 (r':=.tu []) 1 2 (by decide) (uses_rec re hs 0) (by rw[reEl,Re.cells_eq]; rfl) (by simp [refsV,refsV.go,reEl]) rfl rfl rfl rfl rfl ?_
 simp only[zW,Nat.reduceShiftRight,Nat.reduceMod,Nat.reduceLT,Nat.reduceMul,Nat.reduceSub,Int.reduceToNat,Int.reduceNeg,Int.reduceLT,Int.reduceLE,Int.reduceEq,Nat.reduceEqDiff,Nat.reduceAdd,Nat.reduceLeDiff,reduceIte,reduceCtorEq,Nat.reduceBEq,i64,killO,kill1,renO,renV,renV.go,cntO,cell2O]
 all_goals first | exact⟨rfl,rfl⟩ | exact⟨rfl,trivial⟩ | rfl | trivial | (rw[reV_eq]; rfl)
end Go.Proofs.Ytpppfpaalcbggaa
