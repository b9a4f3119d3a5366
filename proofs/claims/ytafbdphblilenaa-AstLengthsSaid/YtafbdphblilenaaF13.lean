import Derived.Test.YtafbdphblilenaaF5
set_option linter.unusedSimpArgs false
set_option linter.unusedVariables false
namespace Go.Proofs.Ytafbdphblilenaa
open Go.VL

/-! ### Lengths and whether a tree can be empty: what the code computes -/

def lplus (a b : Int) : Int := if a < 0 ∨ b < 0 then -1 else min (IntKind.i64.wrap (a + b)) 1000000
def lgreater (a b : Int) : Int := if a < 0 ∨ b < 0 then -1 else max a b
def ltimes (a b : Int) : Int := if a = 0 ∨ b = 0 then 0 else if a < 0 ∨ b < 0 then -1 else min (IntKind.i64.wrap (a * b)) 1000000

set_option maxHeartbeats 1000000 in
theorem plus_ok (a b : Int) : PureOK Try.prog 55 [i64 a, i64 b] (i64 (lplus a b)) := by
  refine fn_ok Try.func55 rfl Try.ntmps55 Try.results55 rfl 0 19 (by simp) (by simp) ?_
  by_cases ha : a < 0
  · simp only [vsA, vsB, eq_self, hole, stepC, callK, footOf, allW, roFree, roIn, roOp, opReads, opAt, vIds, Op.operands, Call.operands, Array.toList_append, nilSlWp, Qend, gslot, dstOk, updO, updE, Nat.reduceShiftRight, Nat.reduceMod, ev, cv, binWp, intWp, unWp, nilWp, resWp, resL, resV, finWp, frzV, frzV.go, frzD, envOf, loadWp, mkVWp, storeWp, boxWp, allocWp, lenWp, indexAddrWp, fieldAddrWp, fieldWp, indexWp, partWp, elP, atG, tupWp, isPtr, Nat.reduceLT, Nat.reduceMul, Nat.reduceSub, Int.reduceToNat, Int.reduceNeg, Int.reduceLT, Int.reduceLE, Int.reduceEq, Nat.reduceEqDiff, Nat.reduceAdd, Nat.reduceLeDiff, List.map_cons, List.map_nil, List.toList_toArray, List.getElem?_cons_zero, List.getElem?_cons_succ, List.take_zero, List.all_nil, List.length_cons, List.length_nil, List.drop_zero, List.drop_succ_cons, if_true, if_false, reduceIte, reduceCtorEq, List.nil_append, List.cons_append, ne_eq, buildWp, buildSliceWp, fillV, fillE, allD, toD, makeSliceWp, appendWp, elsV, objOk, refsV, refsV.go, sliceWp, obnd, intV, convWp, minmaxWp, List.replicate, List.mapM_cons, List.mapM_nil, Option.pure_def, Option.bind_eq_bind, Option.bind_some, putCells, List.set_cons_zero, List.set_cons_succ, List.take_succ_cons, List.contains_nil, List.contains_cons, Nat.reduceBEq, List.flatMap_cons, List.flatMap_nil, List.all_cons, List.append_nil, List.length_map, List.getElem?_map, Option.map_some, tys0, tys1, tys2, tys3, tys4, tys5, tys6, i64, ha]
    simp [lplus, ha]
  · by_cases hb : b < 0
    · simp only [vsA, vsB, eq_self, hole, stepC, callK, footOf, allW, roFree, roIn, roOp, opReads, opAt, vIds, Op.operands, Call.operands, Array.toList_append, nilSlWp, Qend, gslot, dstOk, updO, updE, Nat.reduceShiftRight, Nat.reduceMod, ev, cv, binWp, intWp, unWp, nilWp, resWp, resL, resV, finWp, frzV, frzV.go, frzD, envOf, loadWp, mkVWp, storeWp, boxWp, allocWp, lenWp, indexAddrWp, fieldAddrWp, fieldWp, indexWp, partWp, elP, atG, tupWp, isPtr, Nat.reduceLT, Nat.reduceMul, Nat.reduceSub, Int.reduceToNat, Int.reduceNeg, Int.reduceLT, Int.reduceLE, Int.reduceEq, Nat.reduceEqDiff, Nat.reduceAdd, Nat.reduceLeDiff, List.map_cons, List.map_nil, List.toList_toArray, List.getElem?_cons_zero, List.getElem?_cons_succ, List.take_zero, List.all_nil, List.length_cons, List.length_nil, List.drop_zero, List.drop_succ_cons, if_true, if_false, reduceIte, reduceCtorEq, List.nil_append, List.cons_append, ne_eq, buildWp, buildSliceWp, fillV, fillE, allD, toD, makeSliceWp, appendWp, elsV, objOk, refsV, refsV.go, sliceWp, obnd, intV, convWp, minmaxWp, List.replicate, List.mapM_cons, List.mapM_nil, Option.pure_def, Option.bind_eq_bind, Option.bind_some, putCells, List.set_cons_zero, List.set_cons_succ, List.take_succ_cons, List.contains_nil, List.contains_cons, Nat.reduceBEq, List.flatMap_cons, List.flatMap_nil, List.all_cons, List.append_nil, List.length_map, List.getElem?_map, Option.map_some, tys0, tys1, tys2, tys3, tys4, tys5, tys6, i64, ha, hb]
      simp [lplus, ha, hb]
    · simp only [vsA, vsB, eq_self, hole, stepC, callK, footOf, allW, roFree, roIn, roOp, opReads, opAt, vIds, Op.operands, Call.operands, Array.toList_append, nilSlWp, Qend, gslot, dstOk, updO, updE, Nat.reduceShiftRight, Nat.reduceMod, ev, cv, binWp, intWp, unWp, nilWp, resWp, resL, resV, finWp, frzV, frzV.go, frzD, envOf, loadWp, mkVWp, storeWp, boxWp, allocWp, lenWp, indexAddrWp, fieldAddrWp, fieldWp, indexWp, partWp, elP, atG, tupWp, isPtr, Nat.reduceLT, Nat.reduceMul, Nat.reduceSub, Int.reduceToNat, Int.reduceNeg, Int.reduceLT, Int.reduceLE, Int.reduceEq, Nat.reduceEqDiff, Nat.reduceAdd, Nat.reduceLeDiff, List.map_cons, List.map_nil, List.toList_toArray, List.getElem?_cons_zero, List.getElem?_cons_succ, List.take_zero, List.all_nil, List.length_cons, List.length_nil, List.drop_zero, List.drop_succ_cons, if_true, if_false, reduceIte, reduceCtorEq, List.nil_append, List.cons_append, ne_eq, buildWp, buildSliceWp, fillV, fillE, allD, toD, makeSliceWp, appendWp, elsV, objOk, refsV, refsV.go, sliceWp, obnd, intV, convWp, minmaxWp, List.replicate, List.mapM_cons, List.mapM_nil, Option.pure_def, Option.bind_eq_bind, Option.bind_some, putCells, List.set_cons_zero, List.set_cons_succ, List.take_succ_cons, List.contains_nil, List.contains_cons, Nat.reduceBEq, List.flatMap_cons, List.flatMap_nil, List.all_cons, List.append_nil, List.length_map, List.getElem?_map, Option.map_some, tys0, tys1, tys2, tys3, tys4, tys5, tys6, i64, ha, hb]
      simp [lplus, ha, hb]

set_option maxHeartbeats 1000000 in
theorem greater_ok (a b : Int) : PureOK Try.prog 56 [i64 a, i64 b] (i64 (lgreater a b)) := by
  refine fn_ok Try.func56 rfl Try.ntmps56 Try.results56 rfl 0 19 (by simp) (by simp) ?_
  by_cases ha : a < 0
  · simp only [vsA, vsB, eq_self, hole, stepC, callK, footOf, allW, roFree, roIn, roOp, opReads, opAt, vIds, Op.operands, Call.operands, Array.toList_append, nilSlWp, Qend, gslot, dstOk, updO, updE, Nat.reduceShiftRight, Nat.reduceMod, ev, cv, binWp, intWp, unWp, nilWp, resWp, resL, resV, finWp, frzV, frzV.go, frzD, envOf, loadWp, mkVWp, storeWp, boxWp, allocWp, lenWp, indexAddrWp, fieldAddrWp, fieldWp, indexWp, partWp, elP, atG, tupWp, isPtr, Nat.reduceLT, Nat.reduceMul, Nat.reduceSub, Int.reduceToNat, Int.reduceNeg, Int.reduceLT, Int.reduceLE, Int.reduceEq, Nat.reduceEqDiff, Nat.reduceAdd, Nat.reduceLeDiff, List.map_cons, List.map_nil, List.toList_toArray, List.getElem?_cons_zero, List.getElem?_cons_succ, List.take_zero, List.all_nil, List.length_cons, List.length_nil, List.drop_zero, List.drop_succ_cons, if_true, if_false, reduceIte, reduceCtorEq, List.nil_append, List.cons_append, ne_eq, buildWp, buildSliceWp, fillV, fillE, allD, toD, makeSliceWp, appendWp, elsV, objOk, refsV, refsV.go, sliceWp, obnd, intV, convWp, minmaxWp, List.replicate, List.mapM_cons, List.mapM_nil, Option.pure_def, Option.bind_eq_bind, Option.bind_some, putCells, List.set_cons_zero, List.set_cons_succ, List.take_succ_cons, List.contains_nil, List.contains_cons, Nat.reduceBEq, List.flatMap_cons, List.flatMap_nil, List.all_cons, List.append_nil, List.length_map, List.getElem?_map, Option.map_some, tys0, tys1, tys2, tys3, tys4, tys5, tys6, i64, ha]
    simp [lgreater, ha]
  · by_cases hb : b < 0
    · simp only [vsA, vsB, eq_self, hole, stepC, callK, footOf, allW, roFree, roIn, roOp, opReads, opAt, vIds, Op.operands, Call.operands, Array.toList_append, nilSlWp, Qend, gslot, dstOk, updO, updE, Nat.reduceShiftRight, Nat.reduceMod, ev, cv, binWp, intWp, unWp, nilWp, resWp, resL, resV, finWp, frzV, frzV.go, frzD, envOf, loadWp, mkVWp, storeWp, boxWp, allocWp, lenWp, indexAddrWp, fieldAddrWp, fieldWp, indexWp, partWp, elP, atG, tupWp, isPtr, Nat.reduceLT, Nat.reduceMul, Nat.reduceSub, Int.reduceToNat, Int.reduceNeg, Int.reduceLT, Int.reduceLE, Int.reduceEq, Nat.reduceEqDiff, Nat.reduceAdd, Nat.reduceLeDiff, List.map_cons, List.map_nil, List.toList_toArray, List.getElem?_cons_zero, List.getElem?_cons_succ, List.take_zero, List.all_nil, List.length_cons, List.length_nil, List.drop_zero, List.drop_succ_cons, if_true, if_false, reduceIte, reduceCtorEq, List.nil_append, List.cons_append, ne_eq, buildWp, buildSliceWp, fillV, fillE, allD, toD, makeSliceWp, appendWp, elsV, objOk, refsV, refsV.go, sliceWp, obnd, intV, convWp, minmaxWp, List.replicate, List.mapM_cons, List.mapM_nil, Option.pure_def, Option.bind_eq_bind, Option.bind_some, putCells, List.set_cons_zero, List.set_cons_succ, List.take_succ_cons, List.contains_nil, List.contains_cons, Nat.reduceBEq, List.flatMap_cons, List.flatMap_nil, List.all_cons, List.append_nil, List.length_map, List.getElem?_map, Option.map_some, tys0, tys1, tys2, tys3, tys4, tys5, tys6, i64, ha, hb]
      simp [lgreater, ha, hb]
    · simp only [vsA, vsB, eq_self, hole, stepC, callK, footOf, allW, roFree, roIn, roOp, opReads, opAt, vIds, Op.operands, Call.operands, Array.toList_append, nilSlWp, Qend, gslot, dstOk, updO, updE, Nat.reduceShiftRight, Nat.reduceMod, ev, cv, binWp, intWp, unWp, nilWp, resWp, resL, resV, finWp, frzV, frzV.go, frzD, envOf, loadWp, mkVWp, storeWp, boxWp, allocWp, lenWp, indexAddrWp, fieldAddrWp, fieldWp, indexWp, partWp, elP, atG, tupWp, isPtr, Nat.reduceLT, Nat.reduceMul, Nat.reduceSub, Int.reduceToNat, Int.reduceNeg, Int.reduceLT, Int.reduceLE, Int.reduceEq, Nat.reduceEqDiff, Nat.reduceAdd, Nat.reduceLeDiff, List.map_cons, List.map_nil, List.toList_toArray, List.getElem?_cons_zero, List.getElem?_cons_succ, List.take_zero, List.all_nil, List.length_cons, List.length_nil, List.drop_zero, List.drop_succ_cons, if_true, if_false, reduceIte, reduceCtorEq, List.nil_append, List.cons_append, ne_eq, buildWp, buildSliceWp, fillV, fillE, allD, toD, makeSliceWp, appendWp, elsV, objOk, refsV, refsV.go, sliceWp, obnd, intV, convWp, minmaxWp, List.replicate, List.mapM_cons, List.mapM_nil, Option.pure_def, Option.bind_eq_bind, Option.bind_some, putCells, List.set_cons_zero, List.set_cons_succ, List.take_succ_cons, List.contains_nil, List.contains_cons, Nat.reduceBEq, List.flatMap_cons, List.flatMap_nil, List.all_cons, List.append_nil, List.length_map, List.getElem?_map, Option.map_some, tys0, tys1, tys2, tys3, tys4, tys5, tys6, i64, ha, hb]
      simp [lgreater, ha, hb]

set_option maxHeartbeats 1000000 in
theorem times_ok (a b : Int) : PureOK Try.prog 57 [i64 a, i64 b] (i64 (ltimes a b)) := by
  refine fn_ok Try.func57 rfl Try.ntmps57 Try.results57 rfl 0 19 (by simp) (by simp) ?_
  by_cases ha0 : a = 0
  · simp only [vsA, vsB, eq_self, hole, stepC, callK, footOf, allW, roFree, roIn, roOp, opReads, opAt, vIds, Op.operands, Call.operands, Array.toList_append, nilSlWp, Qend, gslot, dstOk, updO, updE, Nat.reduceShiftRight, Nat.reduceMod, ev, cv, binWp, intWp, unWp, nilWp, resWp, resL, resV, finWp, frzV, frzV.go, frzD, envOf, loadWp, mkVWp, storeWp, boxWp, allocWp, lenWp, indexAddrWp, fieldAddrWp, fieldWp, indexWp, partWp, elP, atG, tupWp, isPtr, Nat.reduceLT, Nat.reduceMul, Nat.reduceSub, Int.reduceToNat, Int.reduceNeg, Int.reduceLT, Int.reduceLE, Int.reduceEq, Nat.reduceEqDiff, Nat.reduceAdd, Nat.reduceLeDiff, List.map_cons, List.map_nil, List.toList_toArray, List.getElem?_cons_zero, List.getElem?_cons_succ, List.take_zero, List.all_nil, List.length_cons, List.length_nil, List.drop_zero, List.drop_succ_cons, if_true, if_false, reduceIte, reduceCtorEq, List.nil_append, List.cons_append, ne_eq, buildWp, buildSliceWp, fillV, fillE, allD, toD, makeSliceWp, appendWp, elsV, objOk, refsV, refsV.go, sliceWp, obnd, intV, convWp, minmaxWp, List.replicate, List.mapM_cons, List.mapM_nil, Option.pure_def, Option.bind_eq_bind, Option.bind_some, putCells, List.set_cons_zero, List.set_cons_succ, List.take_succ_cons, List.contains_nil, List.contains_cons, Nat.reduceBEq, List.flatMap_cons, List.flatMap_nil, List.all_cons, List.append_nil, List.length_map, List.getElem?_map, Option.map_some, tys0, tys1, tys2, tys3, tys4, tys5, tys6, i64, ha0]
    simp [ltimes, ha0]
  by_cases hb0 : b = 0
  · simp only [vsA, vsB, eq_self, hole, stepC, callK, footOf, allW, roFree, roIn, roOp, opReads, opAt, vIds, Op.operands, Call.operands, Array.toList_append, nilSlWp, Qend, gslot, dstOk, updO, updE, Nat.reduceShiftRight, Nat.reduceMod, ev, cv, binWp, intWp, unWp, nilWp, resWp, resL, resV, finWp, frzV, frzV.go, frzD, envOf, loadWp, mkVWp, storeWp, boxWp, allocWp, lenWp, indexAddrWp, fieldAddrWp, fieldWp, indexWp, partWp, elP, atG, tupWp, isPtr, Nat.reduceLT, Nat.reduceMul, Nat.reduceSub, Int.reduceToNat, Int.reduceNeg, Int.reduceLT, Int.reduceLE, Int.reduceEq, Nat.reduceEqDiff, Nat.reduceAdd, Nat.reduceLeDiff, List.map_cons, List.map_nil, List.toList_toArray, List.getElem?_cons_zero, List.getElem?_cons_succ, List.take_zero, List.all_nil, List.length_cons, List.length_nil, List.drop_zero, List.drop_succ_cons, if_true, if_false, reduceIte, reduceCtorEq, List.nil_append, List.cons_append, ne_eq, buildWp, buildSliceWp, fillV, fillE, allD, toD, makeSliceWp, appendWp, elsV, objOk, refsV, refsV.go, sliceWp, obnd, intV, convWp, minmaxWp, List.replicate, List.mapM_cons, List.mapM_nil, Option.pure_def, Option.bind_eq_bind, Option.bind_some, putCells, List.set_cons_zero, List.set_cons_succ, List.take_succ_cons, List.contains_nil, List.contains_cons, Nat.reduceBEq, List.flatMap_cons, List.flatMap_nil, List.all_cons, List.append_nil, List.length_map, List.getElem?_map, Option.map_some, tys0, tys1, tys2, tys3, tys4, tys5, tys6, i64, ha0, hb0]
    simp [ltimes, ha0, hb0]
  by_cases ha : a < 0
  · simp only [vsA, vsB, eq_self, hole, stepC, callK, footOf, allW, roFree, roIn, roOp, opReads, opAt, vIds, Op.operands, Call.operands, Array.toList_append, nilSlWp, Qend, gslot, dstOk, updO, updE, Nat.reduceShiftRight, Nat.reduceMod, ev, cv, binWp, intWp, unWp, nilWp, resWp, resL, resV, finWp, frzV, frzV.go, frzD, envOf, loadWp, mkVWp, storeWp, boxWp, allocWp, lenWp, indexAddrWp, fieldAddrWp, fieldWp, indexWp, partWp, elP, atG, tupWp, isPtr, Nat.reduceLT, Nat.reduceMul, Nat.reduceSub, Int.reduceToNat, Int.reduceNeg, Int.reduceLT, Int.reduceLE, Int.reduceEq, Nat.reduceEqDiff, Nat.reduceAdd, Nat.reduceLeDiff, List.map_cons, List.map_nil, List.toList_toArray, List.getElem?_cons_zero, List.getElem?_cons_succ, List.take_zero, List.all_nil, List.length_cons, List.length_nil, List.drop_zero, List.drop_succ_cons, if_true, if_false, reduceIte, reduceCtorEq, List.nil_append, List.cons_append, ne_eq, buildWp, buildSliceWp, fillV, fillE, allD, toD, makeSliceWp, appendWp, elsV, objOk, refsV, refsV.go, sliceWp, obnd, intV, convWp, minmaxWp, List.replicate, List.mapM_cons, List.mapM_nil, Option.pure_def, Option.bind_eq_bind, Option.bind_some, putCells, List.set_cons_zero, List.set_cons_succ, List.take_succ_cons, List.contains_nil, List.contains_cons, Nat.reduceBEq, List.flatMap_cons, List.flatMap_nil, List.all_cons, List.append_nil, List.length_map, List.getElem?_map, Option.map_some, tys0, tys1, tys2, tys3, tys4, tys5, tys6, i64, ha0, hb0, ha]
    simp [ltimes, ha0, hb0, ha]
  · by_cases hb : b < 0
    · simp only [vsA, vsB, eq_self, hole, stepC, callK, footOf, allW, roFree, roIn, roOp, opReads, opAt, vIds, Op.operands, Call.operands, Array.toList_append, nilSlWp, Qend, gslot, dstOk, updO, updE, Nat.reduceShiftRight, Nat.reduceMod, ev, cv, binWp, intWp, unWp, nilWp, resWp, resL, resV, finWp, frzV, frzV.go, frzD, envOf, loadWp, mkVWp, storeWp, boxWp, allocWp, lenWp, indexAddrWp, fieldAddrWp, fieldWp, indexWp, partWp, elP, atG, tupWp, isPtr, Nat.reduceLT, Nat.reduceMul, Nat.reduceSub, Int.reduceToNat, Int.reduceNeg, Int.reduceLT, Int.reduceLE, Int.reduceEq, Nat.reduceEqDiff, Nat.reduceAdd, Nat.reduceLeDiff, List.map_cons, List.map_nil, List.toList_toArray, List.getElem?_cons_zero, List.getElem?_cons_succ, List.take_zero, List.all_nil, List.length_cons, List.length_nil, List.drop_zero, List.drop_succ_cons, if_true, if_false, reduceIte, reduceCtorEq, List.nil_append, List.cons_append, ne_eq, buildWp, buildSliceWp, fillV, fillE, allD, toD, makeSliceWp, appendWp, elsV, objOk, refsV, refsV.go, sliceWp, obnd, intV, convWp, minmaxWp, List.replicate, List.mapM_cons, List.mapM_nil, Option.pure_def, Option.bind_eq_bind, Option.bind_some, putCells, List.set_cons_zero, List.set_cons_succ, List.take_succ_cons, List.contains_nil, List.contains_cons, Nat.reduceBEq, List.flatMap_cons, List.flatMap_nil, List.all_cons, List.append_nil, List.length_map, List.getElem?_map, Option.map_some, tys0, tys1, tys2, tys3, tys4, tys5, tys6, i64, ha0, hb0, ha, hb]
      simp [ltimes, ha0, hb0, ha, hb]
    · simp only [vsA, vsB, eq_self, hole, stepC, callK, footOf, allW, roFree, roIn, roOp, opReads, opAt, vIds, Op.operands, Call.operands, Array.toList_append, nilSlWp, Qend, gslot, dstOk, updO, updE, Nat.reduceShiftRight, Nat.reduceMod, ev, cv, binWp, intWp, unWp, nilWp, resWp, resL, resV, finWp, frzV, frzV.go, frzD, envOf, loadWp, mkVWp, storeWp, boxWp, allocWp, lenWp, indexAddrWp, fieldAddrWp, fieldWp, indexWp, partWp, elP, atG, tupWp, isPtr, Nat.reduceLT, Nat.reduceMul, Nat.reduceSub, Int.reduceToNat, Int.reduceNeg, Int.reduceLT, Int.reduceLE, Int.reduceEq, Nat.reduceEqDiff, Nat.reduceAdd, Nat.reduceLeDiff, List.map_cons, List.map_nil, List.toList_toArray, List.getElem?_cons_zero, List.getElem?_cons_succ, List.take_zero, List.all_nil, List.length_cons, List.length_nil, List.drop_zero, List.drop_succ_cons, if_true, if_false, reduceIte, reduceCtorEq, List.nil_append, List.cons_append, ne_eq, buildWp, buildSliceWp, fillV, fillE, allD, toD, makeSliceWp, appendWp, elsV, objOk, refsV, refsV.go, sliceWp, obnd, intV, convWp, minmaxWp, List.replicate, List.mapM_cons, List.mapM_nil, Option.pure_def, Option.bind_eq_bind, Option.bind_some, putCells, List.set_cons_zero, List.set_cons_succ, List.take_succ_cons, List.contains_nil, List.contains_cons, Nat.reduceBEq, List.flatMap_cons, List.flatMap_nil, List.all_cons, List.append_nil, List.length_map, List.getElem?_map, Option.map_some, tys0, tys1, tys2, tys3, tys4, tys5, tys6, i64, ha0, hb0, ha, hb]
      simp [ltimes, ha0, hb0, ha, hb]

def catL (l : List (Int × Int)) : Int × Int := l.foldl (fun a k => (lplus a.1 k.1, lplus a.2 k.2)) (0, 0)

def altF (a k : Int × Int) : Int × Int := (min a.1 k.1, lgreater a.2 k.2)
def altL : List (Int × Int) → Int × Int
  | [] => (0, 0)
  | k :: l => l.foldl altF (altF k k)

theorem catL_snoc (l : List (Int × Int)) (k : Int × Int) : catL (l ++ [k]) = (lplus (catL l).1 k.1, lplus (catL l).2 k.2) := by
  simp [catL, List.foldl_append]

theorem altL_one (k : Int × Int) : altL [k] = altF k k := rfl

theorem altL_snoc {l : List (Int × Int)} (h : l ≠ []) (k : Int × Int) : altL (l ++ [k]) = altF (altL l) k := by
  cases l with
  | nil => exact absurd rfl h
  | cons x l => simp [altL, List.foldl_append]

def lensOp (op mn mx : Int) (l : List (Int × Int)) : Int × Int :=
  if op = 1 then (1, 1)
  else if op = 6 then (0, -1)
  else if op = 2 then catL l
  else if op = 3 ∨ op = 10 ∨ op = 4 ∨ op = 5 ∨ op = 9 then
    (if op = 4 then (ltimes (altL l).1 mn, ltimes (altL l).2 mx) else altL l)
  else (0, 0)

mutual
def Re.lens : Re → Int × Int
  | .mk op _ kids mn mx _ _ _ => lensOp op mn mx (Re.lensL kids)
def Re.lensL : List Re → List (Int × Int)
  | [] => []
  | k :: l => k.lens :: Re.lensL l
end

theorem Re.lensL_eq : ∀ l : List Re, Re.lensL l = l.map Re.lens
  | [] => by simp [Re.lensL]
  | k :: l => by simp [Re.lensL, Re.lensL_eq l]

theorem Re.lens_eq (re : Re) : re.lens = lensOp re.op re.mn re.mx (re.kids.map Re.lens) := by
  cases re; simp [Re.lens, Re.lensL_eq, Re.op, Re.mn, Re.mx, Re.kids]

/-- The cell that holds a closure that calls itself. -/
def cellO (f : FuncId) : VL.Obj := ⟨0, true, 1, [[.cl (.func f) [] [.rf 0 0 0 0]]]⟩

/-! ### Trees whose lists are not too long -/

mutual
def Re.fine : Re → Bool
  | .mk _ set kids _ _ _ _ _ => decide (set.length ≤ 1000000000) && (decide (kids.length ≤ 1000000000) && Re.fineL kids)
def Re.fineL : List Re → Bool
  | [] => true
  | k :: l => k.fine && Re.fineL l
end

theorem Re.fineL_all : ∀ l : List Re, Re.fineL l = l.all Re.fine
  | [] => rfl
  | k :: l => by simp [Re.fineL, Re.fineL_all l]

theorem Re.fine_iff (re : Re) : re.fine = true ↔ re.set.length ≤ 1000000000 ∧ re.kids.length ≤ 1000000000 ∧ ∀ k ∈ re.kids, k.fine = true := by
  cases re with
  | mk op set kids mn mx mode n neg => simp only [Re.fine, Bool.and_eq_true, decide_eq_true_eq, Re.fineL_all, List.all_eq_true, Re.set, Re.kids]

theorem Re.fine_spec {re : Re} (h : re.fine = true) : re.set.length ≤ 1000000000 ∧ re.kids.length ≤ 1000000000 ∧ ∀ k ∈ re.kids, k.fine = true := (Re.fine_iff re).1 h

end Go.Proofs.Ytafbdphblilenaa
