import Derived.Test.YtafbdphblilenaaF14
import Derived.Test.YtafbdphblilenaaF23
set_option linter.unusedSimpArgs false
set_option linter.unusedVariables false
namespace Go.Proofs.Ytafbdphblilenaa
open Go.VL

/-! ### The example -/

def aR : Re := .mk 1 [(97, 97)] [] 0 0 0 0 false
def xR : Re := .mk 4 [] [aR] 2 3 0 0 false
def yR : Re := .mk 2 [] [aR, aR, .mk 4 [] [aR] 0 1 0 0 false] 0 0 0 0 false

theorem x_exq : xR.every exq = true := by decide
theorem x_fine : xR.fine = true := by decide
theorem y_fine : yR.fine = true := by decide
theorem x_lens : xR.lens = (2, 3) := by decide
theorem x_size : (xR.size : Int) = 2 := by decide
theorem y_size : (yR.size : Int) = 5 := by decide
theorem x_depth : xR.depth = 2 := by decide
theorem x_exp : expandR xR = (yR, 0) := by
  rw [expandR, if_neg (by decide), if_neg (by decide)]
  rfl

theorem reV_x : reV xR = .ag [i64 4, .d (.sl []), .d (.sl [aR.cells]), i64 2, i64 3, i64 0, i64 0, bV false] := by rw [reV_eq]; rfl
theorem a_cells : aR.cells = [iD 1, .sl [[iD 97, iD 97]], .sl [], iD 0, iD 0, iD 0, iD 0, bD false] := by rw [Re.cells_eq]; rfl

set_option maxRecDepth 100000 in
set_option maxHeartbeats 8000000 in
theorem lives_ok : PureOK Try.prog 17 [] (bV true) := by
  have hl := lengths_ok xR x_fine
  have he := expand_ok xR x_exq
  have hs := size_ok xR (by decide)
  have hd := depth_ok xR (by decide)
  have hs' := size_ok yR (by decide)
  have hc := cmpSelf_ok yR y_fine
  rw [x_lens] at hl
  rw [x_exp] at he
  rw [x_size] at hs
  rw [x_depth] at hd
  rw [y_size] at hs'
  refine fn_ok Try.func17 rfl Try.ntmps17 Try.results17 rfl 0 255 (by simp) (by simp) ?_
  simp only [vsA, vsB, eq_self, hole, stepC, callK, footOf, allW, roFree, roIn, roOp, opReads, opAt, vIds, Op.operands, Call.operands, Array.toList_append, nilSlWp, Qend, gslot, dstOk, updO, updE, Nat.reduceShiftRight, Nat.reduceMod, ev, cv, binWp, intWp, unWp, nilWp, resWp, resL, resV, finWp, frzV, frzV.go, frzD, envOf, loadWp, mkVWp, storeWp, boxWp, allocWp, lenWp, indexAddrWp, fieldAddrWp, fieldWp, indexWp, partWp, elP, atG, tupWp, isPtr, Nat.reduceLT, Nat.reduceMul, Nat.reduceSub, Int.reduceToNat, Int.reduceNeg, Int.reduceLT, Int.reduceLE, Int.reduceEq, Nat.reduceEqDiff, Nat.reduceAdd, Nat.reduceLeDiff, List.map_cons, List.map_nil, List.toList_toArray, List.getElem?_cons_zero, List.getElem?_cons_succ, List.take_zero, List.all_nil, List.length_cons, List.length_nil, List.drop_zero, List.drop_succ_cons, if_true, if_false, reduceIte, reduceCtorEq, List.nil_append, List.cons_append, ne_eq, buildWp, buildSliceWp, fillV, fillE, allD, toD, makeSliceWp, appendWp, elsV, objOk, refsV, refsV.go, sliceWp, obnd, intV, convWp, minmaxWp, List.replicate, List.mapM_cons, List.mapM_nil, Option.pure_def, Option.bind_eq_bind, Option.bind_some, putCells, List.set_cons_zero, List.set_cons_succ, List.take_succ_cons, List.contains_nil, List.contains_cons, Nat.reduceBEq, List.flatMap_cons, List.flatMap_nil, List.all_cons, List.append_nil, List.length_map, List.getElem?_map, Option.map_some, tys0, tys1, tys2, tys3, tys4, tys5, tys6, i64]
  refine call_give [] rfl ?_
  refine call_pure hl rfl rfl ?_
  simp only [vsA, vsB, eq_self, hole, stepC, callK, footOf, allW, roFree, roIn, roOp, opReads, opAt, vIds, Op.operands, Call.operands, Array.toList_append, nilSlWp, Qend, gslot, dstOk, updO, updE, Nat.reduceShiftRight, Nat.reduceMod, ev, cv, binWp, intWp, unWp, nilWp, resWp, resL, resV, finWp, frzV, frzV.go, frzD, envOf, loadWp, mkVWp, storeWp, boxWp, allocWp, lenWp, indexAddrWp, fieldAddrWp, fieldWp, indexWp, partWp, elP, atG, tupWp, isPtr, Nat.reduceLT, Nat.reduceMul, Nat.reduceSub, Int.reduceToNat, Int.reduceNeg, Int.reduceLT, Int.reduceLE, Int.reduceEq, Nat.reduceEqDiff, Nat.reduceAdd, Nat.reduceLeDiff, List.map_cons, List.map_nil, List.toList_toArray, List.getElem?_cons_zero, List.getElem?_cons_succ, List.take_zero, List.all_nil, List.length_cons, List.length_nil, List.drop_zero, List.drop_succ_cons, if_true, if_false, reduceIte, reduceCtorEq, List.nil_append, List.cons_append, ne_eq, buildWp, buildSliceWp, fillV, fillE, allD, toD, makeSliceWp, appendWp, elsV, objOk, refsV, refsV.go, sliceWp, obnd, intV, convWp, minmaxWp, List.replicate, List.mapM_cons, List.mapM_nil, Option.pure_def, Option.bind_eq_bind, Option.bind_some, putCells, List.set_cons_zero, List.set_cons_succ, List.take_succ_cons, List.contains_nil, List.contains_cons, Nat.reduceBEq, List.flatMap_cons, List.flatMap_nil, List.all_cons, List.append_nil, List.length_map, List.getElem?_map, Option.map_some, tys0, tys1, tys2, tys3, tys4, tys5, tys6, i64, killO]
  refine call_give [] rfl ?_
  refine call_pure he rfl (by simp [refsV, refsV.go, reV_eq, i64, bV, reEl]) ?_
  simp only [vsA, vsB, eq_self, hole, stepC, callK, footOf, allW, roFree, roIn, roOp, opReads, opAt, vIds, Op.operands, Call.operands, Array.toList_append, nilSlWp, Qend, gslot, dstOk, updO, updE, Nat.reduceShiftRight, Nat.reduceMod, ev, cv, binWp, intWp, unWp, nilWp, resWp, resL, resV, finWp, frzV, frzV.go, frzD, envOf, loadWp, mkVWp, storeWp, boxWp, allocWp, lenWp, indexAddrWp, fieldAddrWp, fieldWp, indexWp, partWp, elP, atG, tupWp, isPtr, Nat.reduceLT, Nat.reduceMul, Nat.reduceSub, Int.reduceToNat, Int.reduceNeg, Int.reduceLT, Int.reduceLE, Int.reduceEq, Nat.reduceEqDiff, Nat.reduceAdd, Nat.reduceLeDiff, List.map_cons, List.map_nil, List.toList_toArray, List.getElem?_cons_zero, List.getElem?_cons_succ, List.take_zero, List.all_nil, List.length_cons, List.length_nil, List.drop_zero, List.drop_succ_cons, if_true, if_false, reduceIte, reduceCtorEq, List.nil_append, List.cons_append, ne_eq, buildWp, buildSliceWp, fillV, fillE, allD, toD, makeSliceWp, appendWp, elsV, objOk, refsV, refsV.go, sliceWp, obnd, intV, convWp, minmaxWp, List.replicate, List.mapM_cons, List.mapM_nil, Option.pure_def, Option.bind_eq_bind, Option.bind_some, putCells, List.set_cons_zero, List.set_cons_succ, List.take_succ_cons, List.contains_nil, List.contains_cons, Nat.reduceBEq, List.flatMap_cons, List.flatMap_nil, List.all_cons, List.append_nil, List.length_map, List.getElem?_map, Option.map_some, tys0, tys1, tys2, tys3, tys4, tys5, tys6, i64, killO]
  refine call_give [] rfl ?_
  refine call_pure hs rfl rfl ?_
  simp only [vsA, vsB, eq_self, hole, stepC, callK, footOf, allW, roFree, roIn, roOp, opReads, opAt, vIds, Op.operands, Call.operands, Array.toList_append, nilSlWp, Qend, gslot, dstOk, updO, updE, Nat.reduceShiftRight, Nat.reduceMod, ev, cv, binWp, intWp, unWp, nilWp, resWp, resL, resV, finWp, frzV, frzV.go, frzD, envOf, loadWp, mkVWp, storeWp, boxWp, allocWp, lenWp, indexAddrWp, fieldAddrWp, fieldWp, indexWp, partWp, elP, atG, tupWp, isPtr, Nat.reduceLT, Nat.reduceMul, Nat.reduceSub, Int.reduceToNat, Int.reduceNeg, Int.reduceLT, Int.reduceLE, Int.reduceEq, Nat.reduceEqDiff, Nat.reduceAdd, Nat.reduceLeDiff, List.map_cons, List.map_nil, List.toList_toArray, List.getElem?_cons_zero, List.getElem?_cons_succ, List.take_zero, List.all_nil, List.length_cons, List.length_nil, List.drop_zero, List.drop_succ_cons, if_true, if_false, reduceIte, reduceCtorEq, List.nil_append, List.cons_append, ne_eq, buildWp, buildSliceWp, fillV, fillE, allD, toD, makeSliceWp, appendWp, elsV, objOk, refsV, refsV.go, sliceWp, obnd, intV, convWp, minmaxWp, List.replicate, List.mapM_cons, List.mapM_nil, Option.pure_def, Option.bind_eq_bind, Option.bind_some, putCells, List.set_cons_zero, List.set_cons_succ, List.take_succ_cons, List.contains_nil, List.contains_cons, Nat.reduceBEq, List.flatMap_cons, List.flatMap_nil, List.all_cons, List.append_nil, List.length_map, List.getElem?_map, Option.map_some, tys0, tys1, tys2, tys3, tys4, tys5, tys6, i64, killO]
  refine call_give [] rfl ?_
  refine call_pure hd rfl rfl ?_
  simp only [vsA, vsB, eq_self, hole, stepC, callK, footOf, allW, roFree, roIn, roOp, opReads, opAt, vIds, Op.operands, Call.operands, Array.toList_append, nilSlWp, Qend, gslot, dstOk, updO, updE, Nat.reduceShiftRight, Nat.reduceMod, ev, cv, binWp, intWp, unWp, nilWp, resWp, resL, resV, finWp, frzV, frzV.go, frzD, envOf, loadWp, mkVWp, storeWp, boxWp, allocWp, lenWp, indexAddrWp, fieldAddrWp, fieldWp, indexWp, partWp, elP, atG, tupWp, isPtr, Nat.reduceLT, Nat.reduceMul, Nat.reduceSub, Int.reduceToNat, Int.reduceNeg, Int.reduceLT, Int.reduceLE, Int.reduceEq, Nat.reduceEqDiff, Nat.reduceAdd, Nat.reduceLeDiff, List.map_cons, List.map_nil, List.toList_toArray, List.getElem?_cons_zero, List.getElem?_cons_succ, List.take_zero, List.all_nil, List.length_cons, List.length_nil, List.drop_zero, List.drop_succ_cons, if_true, if_false, reduceIte, reduceCtorEq, List.nil_append, List.cons_append, ne_eq, buildWp, buildSliceWp, fillV, fillE, allD, toD, makeSliceWp, appendWp, elsV, objOk, refsV, refsV.go, sliceWp, obnd, intV, convWp, minmaxWp, List.replicate, List.mapM_cons, List.mapM_nil, Option.pure_def, Option.bind_eq_bind, Option.bind_some, putCells, List.set_cons_zero, List.set_cons_succ, List.take_succ_cons, List.contains_nil, List.contains_cons, Nat.reduceBEq, List.flatMap_cons, List.flatMap_nil, List.all_cons, List.append_nil, List.length_map, List.getElem?_map, Option.map_some, tys0, tys1, tys2, tys3, tys4, tys5, tys6, i64, killO]
  refine call_give [] rfl ?_
  refine call_pure hs' rfl rfl ?_
  simp only [vsA, vsB, eq_self, hole, stepC, callK, footOf, allW, roFree, roIn, roOp, opReads, opAt, vIds, Op.operands, Call.operands, Array.toList_append, nilSlWp, Qend, gslot, dstOk, updO, updE, Nat.reduceShiftRight, Nat.reduceMod, ev, cv, binWp, intWp, unWp, nilWp, resWp, resL, resV, finWp, frzV, frzV.go, frzD, envOf, loadWp, mkVWp, storeWp, boxWp, allocWp, lenWp, indexAddrWp, fieldAddrWp, fieldWp, indexWp, partWp, elP, atG, tupWp, isPtr, Nat.reduceLT, Nat.reduceMul, Nat.reduceSub, Int.reduceToNat, Int.reduceNeg, Int.reduceLT, Int.reduceLE, Int.reduceEq, Nat.reduceEqDiff, Nat.reduceAdd, Nat.reduceLeDiff, List.map_cons, List.map_nil, List.toList_toArray, List.getElem?_cons_zero, List.getElem?_cons_succ, List.take_zero, List.all_nil, List.length_cons, List.length_nil, List.drop_zero, List.drop_succ_cons, if_true, if_false, reduceIte, reduceCtorEq, List.nil_append, List.cons_append, ne_eq, buildWp, buildSliceWp, fillV, fillE, allD, toD, makeSliceWp, appendWp, elsV, objOk, refsV, refsV.go, sliceWp, obnd, intV, convWp, minmaxWp, List.replicate, List.mapM_cons, List.mapM_nil, Option.pure_def, Option.bind_eq_bind, Option.bind_some, putCells, List.set_cons_zero, List.set_cons_succ, List.take_succ_cons, List.contains_nil, List.contains_cons, Nat.reduceBEq, List.flatMap_cons, List.flatMap_nil, List.all_cons, List.append_nil, List.length_map, List.getElem?_map, Option.map_some, tys0, tys1, tys2, tys3, tys4, tys5, tys6, i64, killO]
  refine call_give [] rfl ?_
  refine call_pure hc rfl rfl ?_
  simp only [vsA, vsB, eq_self, hole, stepC, callK, footOf, allW, roFree, roIn, roOp, opReads, opAt, vIds, Op.operands, Call.operands, Array.toList_append, nilSlWp, Qend, gslot, dstOk, updO, updE, Nat.reduceShiftRight, Nat.reduceMod, ev, cv, binWp, intWp, unWp, nilWp, resWp, resL, resV, finWp, frzV, frzV.go, frzD, envOf, loadWp, mkVWp, storeWp, boxWp, allocWp, lenWp, indexAddrWp, fieldAddrWp, fieldWp, indexWp, partWp, elP, atG, tupWp, isPtr, Nat.reduceLT, Nat.reduceMul, Nat.reduceSub, Int.reduceToNat, Int.reduceNeg, Int.reduceLT, Int.reduceLE, Int.reduceEq, Nat.reduceEqDiff, Nat.reduceAdd, Nat.reduceLeDiff, List.map_cons, List.map_nil, List.toList_toArray, List.getElem?_cons_zero, List.getElem?_cons_succ, List.take_zero, List.all_nil, List.length_cons, List.length_nil, List.drop_zero, List.drop_succ_cons, if_true, if_false, reduceIte, reduceCtorEq, List.nil_append, List.cons_append, ne_eq, buildWp, buildSliceWp, fillV, fillE, allD, toD, makeSliceWp, appendWp, elsV, objOk, refsV, refsV.go, sliceWp, obnd, intV, convWp, minmaxWp, List.replicate, List.mapM_cons, List.mapM_nil, Option.pure_def, Option.bind_eq_bind, Option.bind_some, putCells, List.set_cons_zero, List.set_cons_succ, List.take_succ_cons, List.contains_nil, List.contains_cons, Nat.reduceBEq, List.flatMap_cons, List.flatMap_nil, List.all_cons, List.append_nil, List.length_map, List.getElem?_map, Option.map_some, tys0, tys1, tys2, tys3, tys4, tys5, tys6, i64, killO]
  all_goals first | exact ⟨rfl, rfl⟩ | exact ⟨rfl, trivial⟩ | rfl | trivial | (rw [reV_eq]; rfl)

end Go.Proofs.Ytafbdphblilenaa
