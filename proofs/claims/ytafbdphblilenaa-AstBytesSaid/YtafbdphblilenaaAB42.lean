/- A part of the proof (F60). -/
import Derived.Test.YtafbdphblilenaaAB21
set_option linter.unusedSimpArgs false
set_option linter.unusedVariables false
set_option maxRecDepth 100000
set_option maxHeartbeats 80000000
set_option linter.unusedSimpArgs false
set_option linter.unusedVariables false
namespace Go.Proofs.Ytafbdphblilenaa
open Go.VL Go.Proofs.Try
theorem pairsK_ok (l:List Int) (hl:∀x∈l,I64 x) (tat how by':Int) (ha:I64 tat) (hh:I64 how) (hb:I64 by'):∃p2 p3:Pat,p2.small 513∧p3.small 1027 ∧
  PureOK prog 27 [.d (intsD l),i64 tat,i64 how,i64 by'] (.fu [patC (patOf l 127 30),patC p2,patC p3]):=by
 have h1:=pat_small l 127 30 hl (by omega) (by omega)
 have hp:=pattern_ok l 127 30 hl (by omega) (by omega)
 generalize patOf l 127 30=p1 at *
 obtain⟨p2,s2,k2⟩:=spoilt_ok 256 (by omega) p1 h1 tat how by' ha hh hb
 obtain⟨p3,s3,k3⟩:=spoilt_ok 513 (by omega) p2 s2 how tat (by'.tdiv 2) hh ha (quo_I64 hb)
 refine⟨p2,p3,s2,s3,?_⟩
 have w1:IntKind.i64.wrap (by'.tdiv 2)=by'.tdiv 2:=w64 _ (quo_I64 hb)
 rw[patV_C] at hp k2 k3
 rw[patV_C p2] at k2
 rw[patV_C p3] at k3
 refine fn_keep func27 rfl ntmps27 results27 rfl 0 1807 (by simp) (by simp) ?_
 simp only[zX,Nat.reduceShiftRight,Nat.reduceMod,Nat.reduceLT,Nat.reduceMul,Nat.reduceSub,Int.reduceToNat,Int.reduceNeg,Int.reduceLT,Int.reduceLE,Int.reduceEq,Nat.reduceEqDiff,Nat.reduceAdd,Nat.reduceLeDiff,reduceIte,reduceCtorEq,Nat.reduceBEq,i64]
 refine call_pure all_ok rfl rfl ?_
 simp only[zX,Nat.reduceShiftRight,Nat.reduceMod,Nat.reduceLT,Nat.reduceMul,Nat.reduceSub,Int.reduceToNat,Int.reduceNeg,Int.reduceLT,Int.reduceLE,Int.reduceEq,Nat.reduceEqDiff,Nat.reduceAdd,Nat.reduceLeDiff,reduceIte,reduceCtorEq,Nat.reduceBEq,i64]
 refine call_pure hp rfl (by simp only[refsV,refsV_go_d]) ?_
 simp only[zX,Nat.reduceShiftRight,Nat.reduceMod,Nat.reduceLT,Nat.reduceMul,Nat.reduceSub,Int.reduceToNat,Int.reduceNeg,Int.reduceLT,Int.reduceLE,Int.reduceEq,Nat.reduceEqDiff,Nat.reduceAdd,Nat.reduceLeDiff,reduceIte,reduceCtorEq,Nat.reduceBEq,i64,patC_eq p1,iD,bD]
 simp only[patC_eq p1,iD,bD,List.map_cons,List.map_nil,i64] at k2
 refine call_pure k2 (by simp [refsV,refsV.go]) (by simp only[refsV,refsV_go_d]) ?_
 simp only[zX,Nat.reduceShiftRight,Nat.reduceMod,Nat.reduceLT,Nat.reduceMul,Nat.reduceSub,Int.reduceToNat,Int.reduceNeg,Int.reduceLT,Int.reduceLE,Int.reduceEq,Nat.reduceEqDiff,Nat.reduceAdd,Nat.reduceLeDiff,reduceIte,reduceCtorEq,Nat.reduceBEq,i64,patC_eq p2,iD,bD]
 refine draw_c mix [] [] (by rfl) ?_
 simp only[zX,Nat.reduceShiftRight,Nat.reduceMod,Nat.reduceLT,Nat.reduceMul,Nat.reduceSub,Int.reduceToNat,Int.reduceNeg,Int.reduceLT,Int.reduceLE,Int.reduceEq,Nat.reduceEqDiff,Nat.reduceAdd,Nat.reduceLeDiff,reduceIte,reduceCtorEq,Nat.reduceBEq,i64,iD,bD,w1]
 simp only[patC_eq p2,iD,bD,List.map_cons,List.map_nil,i64] at k3
 refine callC_pure k3 (by simp [refsV,refsV.go]) (by simp only[refsV,refsV_go_d]) ?_
 simp only[zX,Nat.reduceShiftRight,Nat.reduceMod,Nat.reduceLT,Nat.reduceMul,Nat.reduceSub,Int.reduceToNat,Int.reduceNeg,Int.reduceLT,Int.reduceLE,Int.reduceEq,Nat.reduceEqDiff,Nat.reduceAdd,Nat.reduceLeDiff,reduceIte,reduceCtorEq,Nat.reduceBEq,i64,patC_eq p3,iD,bD,List.map_cons,List.map_nil,Qkeep_app,keepWp]
theorem take_patC (p:Pat):((patC p).map V.d).take 10=(patC p).map V.d:=List.take_of_length_le (by simp [patC_len])
theorem take8_patC (p:Pat):((patC p).map V.d).take 8=p.re.cells.map V.d:=by
 unfold patC; rw[List.map_append]; exact List.take_left' (by simp [Re.cells_len])
end Go.Proofs.Ytafbdphblilenaa
