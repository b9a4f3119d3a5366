import Derived.Test.YtafbdphblilenaaF3
set_option linter.unusedSimpArgs false
set_option linter.unusedVariables false
namespace Go.Proofs.Ytafbdphblilenaa
open Go.VL

/-- The maker of trees. -/
structure Mk where
  l : List Int
  pos : Int
  uses : Int
  left : Int
  caps : Int

def mkO (m : Mk) : VL.Obj := ⟨0, true, 5, [[.d (intsD m.l), i64 m.pos, i64 m.uses, i64 m.left, i64 m.caps]]⟩
def mkV : V := .rf 0 0 0 0

/-- What always holds of it. -/
structure Mk.ok (m : Mk) : Prop where
  l : ∀ x ∈ m.l, I64 x
  pos : 0 ≤ m.pos ∧ m.pos ≤ 1000000000
  left : -1000000000 ≤ m.left ∧ m.left ≤ 1000000000
  caps : 0 ≤ m.caps ∧ m.caps ≤ 1000000000

def Mk.next (m : Mk) (n : Int) : Int × Mk := (pick m.l m.pos n, { m with pos := m.pos + 1 })

set_option maxHeartbeats 400000 in
theorem next_ok (m : Mk) (hl : ∀ x ∈ m.l, I64 x) (hp : 0 ≤ m.pos ∧ m.pos ≤ 1000000000) (n : Int) (hn : 1 ≤ n) : callWp Try.prog 99 [mkV, i64 n] [mkO m] fun v s => v = i64 (m.next n).1 ∧ s = [mkO (m.next n).2] := by
  have w1 : IntKind.i64.wrap (m.pos + 1) = m.pos + 1 := w64 _ (by omega)
  have w2 : IntKind.i64.wrap (m.pos + 1 - 1) = m.pos := by rw [w64 _ (by omega)]; omega
  refine fn_ok Try.func99 rfl Try.ntmps99 Try.results99 rfl 1 19 (by simp) (by simp) ?_
  simp only [vsA, vsB, eq_self, hole, stepC, callK, footOf, allW, roFree, roIn, roOp, opReads, opAt, vIds, Op.operands, Call.operands, Array.toList_append, nilSlWp, Qend, gslot, dstOk, updO, updE, Nat.reduceShiftRight, Nat.reduceMod, ev, cv, binWp, intWp, unWp, nilWp, resWp, resL, resV, finWp, frzV, frzV.go, frzD, envOf, loadWp, mkVWp, storeWp, boxWp, allocWp, lenWp, indexAddrWp, fieldAddrWp, fieldWp, indexWp, partWp, elP, atG, tupWp, isPtr, Nat.reduceLT, Nat.reduceMul, Nat.reduceSub, Int.reduceToNat, Int.reduceNeg, Int.reduceLT, Int.reduceLE, Int.reduceEq, Nat.reduceEqDiff, Nat.reduceAdd, Nat.reduceLeDiff, List.map_cons, List.map_nil, List.toList_toArray, List.getElem?_cons_zero, List.getElem?_cons_succ, List.take_zero, List.all_nil, List.length_cons, List.length_nil, List.drop_zero, List.drop_succ_cons, if_true, if_false, reduceIte, reduceCtorEq, List.nil_append, List.cons_append, ne_eq, buildWp, buildSliceWp, fillV, fillE, allD, toD, makeSliceWp, appendWp, elsV, objOk, refsV, refsV.go, sliceWp, obnd, intV, convWp, minmaxWp, List.replicate, List.mapM_cons, List.mapM_nil, Option.pure_def, Option.bind_eq_bind, Option.bind_some, putCells, List.set_cons_zero, List.set_cons_succ, List.take_succ_cons, List.contains_nil, List.contains_cons, Nat.reduceBEq, List.flatMap_cons, List.flatMap_nil, List.all_cons, List.append_nil, List.length_map, List.getElem?_map, Option.map_some, tys0, tys1, tys2, tys3, tys4, tys5, tys6, i64, mkV, mkO, w1, w2]
  refine draw_c mix [] [] (by rfl) ?_
  simp only [vsA, vsB, eq_self, hole, stepC, callK, footOf, allW, roFree, roIn, roOp, opReads, opAt, vIds, Op.operands, Call.operands, Array.toList_append, nilSlWp, Qend, gslot, dstOk, updO, updE, Nat.reduceShiftRight, Nat.reduceMod, ev, cv, binWp, intWp, unWp, nilWp, resWp, resL, resV, finWp, frzV, frzV.go, frzD, envOf, loadWp, mkVWp, storeWp, boxWp, allocWp, lenWp, indexAddrWp, fieldAddrWp, fieldWp, indexWp, partWp, elP, atG, tupWp, isPtr, Nat.reduceLT, Nat.reduceMul, Nat.reduceSub, Int.reduceToNat, Int.reduceNeg, Int.reduceLT, Int.reduceLE, Int.reduceEq, Nat.reduceEqDiff, Nat.reduceAdd, Nat.reduceLeDiff, List.map_cons, List.map_nil, List.toList_toArray, List.getElem?_cons_zero, List.getElem?_cons_succ, List.take_zero, List.all_nil, List.length_cons, List.length_nil, List.drop_zero, List.drop_succ_cons, if_true, if_false, reduceIte, reduceCtorEq, List.nil_append, List.cons_append, ne_eq, buildWp, buildSliceWp, fillV, fillE, allD, toD, makeSliceWp, appendWp, elsV, objOk, refsV, refsV.go, sliceWp, obnd, intV, convWp, minmaxWp, List.replicate, List.mapM_cons, List.mapM_nil, Option.pure_def, Option.bind_eq_bind, Option.bind_some, putCells, List.set_cons_zero, List.set_cons_succ, List.take_succ_cons, List.contains_nil, List.contains_cons, Nat.reduceBEq, List.flatMap_cons, List.flatMap_nil, List.all_cons, List.append_nil, List.length_map, List.getElem?_map, Option.map_some, tys0, tys1, tys2, tys3, tys4, tys5, tys6, i64, mkV, mkO, w1, w2]
  refine callC_pure (pick_ok m.l hl m.pos n hn) rfl rfl ?_
  simp only [vsA, vsB, eq_self, hole, stepC, callK, footOf, allW, roFree, roIn, roOp, opReads, opAt, vIds, Op.operands, Call.operands, Array.toList_append, nilSlWp, Qend, gslot, dstOk, updO, updE, Nat.reduceShiftRight, Nat.reduceMod, ev, cv, binWp, intWp, unWp, nilWp, resWp, resL, resV, finWp, frzV, frzV.go, frzD, envOf, loadWp, mkVWp, storeWp, boxWp, allocWp, lenWp, indexAddrWp, fieldAddrWp, fieldWp, indexWp, partWp, elP, atG, tupWp, isPtr, Nat.reduceLT, Nat.reduceMul, Nat.reduceSub, Int.reduceToNat, Int.reduceNeg, Int.reduceLT, Int.reduceLE, Int.reduceEq, Nat.reduceEqDiff, Nat.reduceAdd, Nat.reduceLeDiff, List.map_cons, List.map_nil, List.toList_toArray, List.getElem?_cons_zero, List.getElem?_cons_succ, List.take_zero, List.all_nil, List.length_cons, List.length_nil, List.drop_zero, List.drop_succ_cons, if_true, if_false, reduceIte, reduceCtorEq, List.nil_append, List.cons_append, ne_eq, buildWp, buildSliceWp, fillV, fillE, allD, toD, makeSliceWp, appendWp, elsV, objOk, refsV, refsV.go, sliceWp, obnd, intV, convWp, minmaxWp, List.replicate, List.mapM_cons, List.mapM_nil, Option.pure_def, Option.bind_eq_bind, Option.bind_some, putCells, List.set_cons_zero, List.set_cons_succ, List.take_succ_cons, List.contains_nil, List.contains_cons, Nat.reduceBEq, List.flatMap_cons, List.flatMap_nil, List.all_cons, List.append_nil, List.length_map, List.getElem?_map, Option.map_some, tys0, tys1, tys2, tys3, tys4, tys5, tys6, i64, mkV, mkO, w1, w2, Mk.next]

/-! ### Sets -/

def setSpans : List (List (Int × Int)) := [[(97, 97)], [(98, 98)], [(97, 98)], [(99, 99)], [(97, 99)], [(0, 96), (98, 255)], [(10, 10), (97, 97)], []]

def Re.ofSet (set : List (Int × Int)) : Re := .mk 1 set [] 0 0 0 0 false

def Mk.set (m : Mk) : Re × Mk :=
  let (k, m1) := m.next 15
  (Re.ofSet ((setSpans[(k / 2).toNat]?).getD []), m1)

theorem pick_range (l : List Int) (i m : Int) (hm : 1 ≤ m) : 0 ≤ pick l i m ∧ pick l i m < m := by
  unfold pick around
  split
  · omega
  · split
    · rename_i h
      have h1 : 0 ≤ -(l[i.toNat]?.getD 0 + 1) := by omega
      exact ⟨Int.tmod_nonneg _ h1, Int.tmod_lt_of_pos _ (by omega)⟩
    · rename_i h
      exact ⟨Int.tmod_nonneg _ (by omega), Int.tmod_lt_of_pos _ (by omega)⟩

set_option maxHeartbeats 1000000 in
theorem set_ok (m : Mk) (hl : ∀ x ∈ m.l, I64 x) (hp : 0 ≤ m.pos ∧ m.pos ≤ 1000000000) : callWp Try.prog 100 [mkV] [mkO m] fun v s => v = reV m.set.1 ∧ s = [mkO m.set.2] := by
  have hk := pick_range m.l m.pos 15 (by omega)
  have hd : (pick m.l m.pos 15).tdiv 2 = pick m.l m.pos 15 / 2 := by rw [Int.tdiv_eq_ediv_of_nonneg hk.1]
  have w1 : IntKind.i64.wrap (pick m.l m.pos 15 / 2) = pick m.l m.pos 15 / 2 := w64 _ (by omega)
  refine fn_ok Try.func100 rfl Try.ntmps100 Try.results100 rfl 1 13 (by simp) (by simp) ?_
  simp only [vsA, vsB, eq_self, hole, stepC, callK, footOf, allW, roFree, roIn, roOp, opReads, opAt, vIds, Op.operands, Call.operands, Array.toList_append, nilSlWp, Qend, gslot, dstOk, updO, updE, Nat.reduceShiftRight, Nat.reduceMod, ev, cv, binWp, intWp, unWp, nilWp, resWp, resL, resV, finWp, frzV, frzV.go, frzD, envOf, loadWp, mkVWp, storeWp, boxWp, allocWp, lenWp, indexAddrWp, fieldAddrWp, fieldWp, indexWp, partWp, elP, atG, tupWp, isPtr, Nat.reduceLT, Nat.reduceMul, Nat.reduceSub, Int.reduceToNat, Int.reduceNeg, Int.reduceLT, Int.reduceLE, Int.reduceEq, Nat.reduceEqDiff, Nat.reduceAdd, Nat.reduceLeDiff, List.map_cons, List.map_nil, List.toList_toArray, List.getElem?_cons_zero, List.getElem?_cons_succ, List.take_zero, List.all_nil, List.length_cons, List.length_nil, List.drop_zero, List.drop_succ_cons, if_true, if_false, reduceIte, reduceCtorEq, List.nil_append, List.cons_append, ne_eq, buildWp, buildSliceWp, fillV, fillE, allD, toD, makeSliceWp, appendWp, elsV, objOk, refsV, refsV.go, sliceWp, obnd, intV, convWp, minmaxWp, List.replicate, List.mapM_cons, List.mapM_nil, Option.pure_def, Option.bind_eq_bind, Option.bind_some, putCells, List.set_cons_zero, List.set_cons_succ, List.take_succ_cons, List.contains_nil, List.contains_cons, Nat.reduceBEq, List.flatMap_cons, List.flatMap_nil, List.all_cons, List.append_nil, List.length_map, List.getElem?_map, Option.map_some, tys0, tys1, tys2, tys3, tys4, tys5, tys6, i64, mkV]
  refine call_one (next_ok m hl hp 15 (by omega)) rfl rfl rfl rfl rfl rfl ?_
  have hc : pick m.l m.pos 15 / 2 = 0 ∨ pick m.l m.pos 15 / 2 = 1 ∨ pick m.l m.pos 15 / 2 = 2 ∨ pick m.l m.pos 15 / 2 = 3 ∨ pick m.l m.pos 15 / 2 = 4 ∨ pick m.l m.pos 15 / 2 = 5 ∨ pick m.l m.pos 15 / 2 = 6 ∨ pick m.l m.pos 15 / 2 = 7 := by omega
  simp only [vsA, vsB, eq_self, hole, stepC, callK, footOf, allW, roFree, roIn, roOp, opReads, opAt, vIds, Op.operands, Call.operands, Array.toList_append, nilSlWp, Qend, gslot, dstOk, updO, updE, Nat.reduceShiftRight, Nat.reduceMod, ev, cv, binWp, intWp, unWp, nilWp, resWp, resL, resV, finWp, frzV, frzV.go, frzD, envOf, loadWp, mkVWp, storeWp, boxWp, allocWp, lenWp, indexAddrWp, fieldAddrWp, fieldWp, indexWp, partWp, elP, atG, tupWp, isPtr, Nat.reduceLT, Nat.reduceMul, Nat.reduceSub, Int.reduceToNat, Int.reduceNeg, Int.reduceLT, Int.reduceLE, Int.reduceEq, Nat.reduceEqDiff, Nat.reduceAdd, Nat.reduceLeDiff, List.map_cons, List.map_nil, List.toList_toArray, List.getElem?_cons_zero, List.getElem?_cons_succ, List.take_zero, List.all_nil, List.length_cons, List.length_nil, List.drop_zero, List.drop_succ_cons, if_true, if_false, reduceIte, reduceCtorEq, List.nil_append, List.cons_append, ne_eq, buildWp, buildSliceWp, fillV, fillE, allD, toD, makeSliceWp, appendWp, elsV, objOk, refsV, refsV.go, sliceWp, obnd, intV, convWp, minmaxWp, List.replicate, List.mapM_cons, List.mapM_nil, Option.pure_def, Option.bind_eq_bind, Option.bind_some, putCells, List.set_cons_zero, List.set_cons_succ, List.take_succ_cons, List.contains_nil, List.contains_cons, Nat.reduceBEq, List.flatMap_cons, List.flatMap_nil, List.all_cons, List.append_nil, List.length_map, List.getElem?_map, Option.map_some, tys0, tys1, tys2, tys3, tys4, tys5, tys6, i64, mkV, Mk.next, hd, w1]
  rcases hc with hc | hc | hc | hc | hc | hc | hc | hc <;> (simp only [vsA, vsB, eq_self, hole, stepC, callK, footOf, allW, roFree, roIn, roOp, opReads, opAt, vIds, Op.operands, Call.operands, Array.toList_append, nilSlWp, Qend, gslot, dstOk, updO, updE, Nat.reduceShiftRight, Nat.reduceMod, ev, cv, binWp, intWp, unWp, nilWp, resWp, resL, resV, finWp, frzV, frzV.go, frzD, envOf, loadWp, mkVWp, storeWp, boxWp, allocWp, lenWp, indexAddrWp, fieldAddrWp, fieldWp, indexWp, partWp, elP, atG, tupWp, isPtr, Nat.reduceLT, Nat.reduceMul, Nat.reduceSub, Int.reduceToNat, Int.reduceNeg, Int.reduceLT, Int.reduceLE, Int.reduceEq, Nat.reduceEqDiff, Nat.reduceAdd, Nat.reduceLeDiff, List.map_cons, List.map_nil, List.toList_toArray, List.getElem?_cons_zero, List.getElem?_cons_succ, List.take_zero, List.all_nil, List.length_cons, List.length_nil, List.drop_zero, List.drop_succ_cons, if_true, if_false, reduceIte, reduceCtorEq, List.nil_append, List.cons_append, ne_eq, buildWp, buildSliceWp, fillV, fillE, allD, toD, makeSliceWp, appendWp, elsV, objOk, refsV, refsV.go, sliceWp, obnd, intV, convWp, minmaxWp, List.replicate, List.mapM_cons, List.mapM_nil, Option.pure_def, Option.bind_eq_bind, Option.bind_some, putCells, List.set_cons_zero, List.set_cons_succ, List.take_succ_cons, List.contains_nil, List.contains_cons, Nat.reduceBEq, List.flatMap_cons, List.flatMap_nil, List.all_cons, List.append_nil, List.length_map, List.getElem?_map, Option.map_some, tys0, tys1, tys2, tys3, tys4, tys5, tys6, hc, Mk.set, Mk.next, setSpans, Re.ofSet, Int.toNat_zero, reV, Re.cells]; exact ⟨by omega, rfl, rfl⟩)
end Go.Proofs.Ytafbdphblilenaa
