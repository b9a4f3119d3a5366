import Derived.Test.YtafbdphblilenaaF13
set_option linter.unusedSimpArgs false
set_option linter.unusedVariables false
namespace Go.Proofs.Ytafbdphblilenaa
open Go.VL

def cntO (c : Int) : VL.Obj := ⟨0, true, 1, [[i64 c]]⟩
def cell2O (f : FuncId) : VL.Obj := ⟨0, true, 1, [[.cl (.func f) [] [.rf 0 0 0 0, .rf 1 0 0 0]]]⟩

def SizeOK (re : Re) : Prop := ∀ c : Int, 0 ≤ c → c + re.size ≤ 1000000000 →
  callWp Try.prog 80 [reEl re, .rf 0 0 0 0, .rf 1 0 0 0] [cntO c, cell2O 80] fun v s => v = .tu [] ∧ s = [cntO (c + re.size), cell2O 80]

set_option maxRecDepth 100000 in
set_option maxHeartbeats 8000000 in
theorem size_rec (re : Re) : SizeOK re := by
  refine Re.ind (Q := SizeOK) (fun re ih => ?_) re
  intro c hc hs
  have hlen := Re.len_le re.kids
  have hsz := Re.size_eq re
  have w1 : IntKind.i64.wrap (c + 1) = c + 1 := w64 _ (by omega)
  refine fn_ok Try.func80 rfl Try.ntmps80 Try.results80 rfl 2 6167 (by simp) (by simp) ?_
  simp only [vsA, vsB, eq_self, hole, stepC, callK, footOf, allW, roFree, roIn, roOp, opReads, opAt, vIds, Op.operands, Call.operands, Array.toList_append, nilSlWp, Qend, gslot, dstOk, updO, updE, Nat.reduceShiftRight, Nat.reduceMod, ev, cv, binWp, intWp, unWp, nilWp, resWp, resL, resV, finWp, frzV, frzV.go, frzD, envOf, loadWp, mkVWp, storeWp, boxWp, allocWp, lenWp, indexAddrWp, fieldAddrWp, fieldWp, indexWp, partWp, elP, atG, tupWp, isPtr, Nat.reduceLT, Nat.reduceMul, Nat.reduceSub, Int.reduceToNat, Int.reduceNeg, Int.reduceLT, Int.reduceLE, Int.reduceEq, Nat.reduceEqDiff, Nat.reduceAdd, Nat.reduceLeDiff, List.map_cons, List.map_nil, List.toList_toArray, List.getElem?_cons_zero, List.getElem?_cons_succ, List.take_zero, List.all_nil, List.length_cons, List.length_nil, List.drop_zero, List.drop_succ_cons, if_true, if_false, reduceIte, reduceCtorEq, List.nil_append, List.cons_append, ne_eq, buildWp, buildSliceWp, fillV, fillE, allD, toD, makeSliceWp, appendWp, elsV, objOk, refsV, refsV.go, sliceWp, obnd, intV, convWp, minmaxWp, List.replicate, List.mapM_cons, List.mapM_nil, Option.pure_def, Option.bind_eq_bind, Option.bind_some, putCells, List.set_cons_zero, List.set_cons_succ, List.take_succ_cons, List.contains_nil, List.contains_cons, Nat.reduceBEq, List.flatMap_cons, List.flatMap_nil, List.all_cons, List.append_nil, List.length_map, List.getElem?_map, Option.map_some, tys0, tys1, tys2, tys3, tys4, tys5, tys6, i64, cntO, cell2O, reEl, Re.cells_eq re, iD, bD, w1]
  refine loop_rule (fun n e s => ∃ i : Nat, n = re.kids.length - i ∧ i ≤ re.kids.length ∧ e 0 = reEl re ∧ e 1 = .rf 0 0 0 0 ∧ e 2 = .rf 1 0 0 0 ∧ e 11 = i64 re.kids.length ∧ e 12 = i64 i ∧ s = [cntO (c + 1 + (Re.sizeL (re.kids.take i) : Nat)), cell2O 80])
    ⟨_, _, _, Cln.refl, 0, rfl, by omega, by simp [reEl, Re.cells_eq re, iD, bD]; rfl, rfl, rfl, rfl, rfl, by simp [Re.sizeL, cntO, cell2O, i64]⟩ ?_
  rintro n e s ⟨i, rfl, hi, h0, h1, h2, h11, h12, rfl⟩
  rcases Nat.lt_or_ge i re.kids.length with hlt | hge
  · obtain ⟨k, hk⟩ : ∃ k, re.kids[i]? = some k := ⟨_, List.getElem?_eq_getElem hlt⟩
    have hm := List.mem_of_getElem? hk
    have hsum : (Re.sizeL (re.kids.take (i + 1)) : Nat) = Re.sizeL (re.kids.take i) + k.size := by rw [take_get hk, Re.sizeL_append]; simp [Re.sizeL]
    have hle := Re.sizeL_take re.kids (i + 1)
    have hk0 := ih k hm (c + 1 + (Re.sizeL (re.kids.take i) : Nat)) (by omega) (by omega)
    simp only [vsA, vsB, eq_self, hole, stepC, callK, footOf, allW, roFree, roIn, roOp, opReads, opAt, vIds, Op.operands, Call.operands, Array.toList_append, nilSlWp, Qend, gslot, dstOk, updO, updE, Nat.reduceShiftRight, Nat.reduceMod, ev, cv, binWp, intWp, unWp, nilWp, resWp, resL, resV, finWp, frzV, frzV.go, frzD, envOf, loadWp, mkVWp, storeWp, boxWp, allocWp, lenWp, indexAddrWp, fieldAddrWp, fieldWp, indexWp, partWp, elP, atG, tupWp, isPtr, Nat.reduceLT, Nat.reduceMul, Nat.reduceSub, Int.reduceToNat, Int.reduceNeg, Int.reduceLT, Int.reduceLE, Int.reduceEq, Nat.reduceEqDiff, Nat.reduceAdd, Nat.reduceLeDiff, List.map_cons, List.map_nil, List.toList_toArray, List.getElem?_cons_zero, List.getElem?_cons_succ, List.take_zero, List.all_nil, List.length_cons, List.length_nil, List.drop_zero, List.drop_succ_cons, if_true, if_false, reduceIte, reduceCtorEq, List.nil_append, List.cons_append, ne_eq, buildWp, buildSliceWp, fillV, fillE, allD, toD, makeSliceWp, appendWp, elsV, objOk, refsV, refsV.go, sliceWp, obnd, intV, convWp, minmaxWp, List.replicate, List.mapM_cons, List.mapM_nil, Option.pure_def, Option.bind_eq_bind, Option.bind_some, putCells, List.set_cons_zero, List.set_cons_succ, List.take_succ_cons, List.contains_nil, List.contains_cons, Nat.reduceBEq, List.flatMap_cons, List.flatMap_nil, List.all_cons, List.append_nil, List.length_map, List.getElem?_map, Option.map_some, tys0, tys1, tys2, tys3, tys4, tys5, tys6, i64, cntO, cell2O, reEl, Re.cells_eq re, iD, bD, h0, h1, h2, h11, h12, hlt]
    refine draw_c mix [] [(0, [1], []), (7, [0, 1], [0, 1])] (by rfl) ?_
    simp only [vsA, vsB, eq_self, hole, stepC, callK, footOf, allW, roFree, roIn, roOp, opReads, opAt, vIds, Op.operands, Call.operands, Array.toList_append, nilSlWp, Qend, gslot, dstOk, updO, updE, Nat.reduceShiftRight, Nat.reduceMod, ev, cv, binWp, intWp, unWp, nilWp, resWp, resL, resV, finWp, frzV, frzV.go, frzD, envOf, loadWp, mkVWp, storeWp, boxWp, allocWp, lenWp, indexAddrWp, fieldAddrWp, fieldWp, indexWp, partWp, elP, atG, tupWp, isPtr, Nat.reduceLT, Nat.reduceMul, Nat.reduceSub, Int.reduceToNat, Int.reduceNeg, Int.reduceLT, Int.reduceLE, Int.reduceEq, Nat.reduceEqDiff, Nat.reduceAdd, Nat.reduceLeDiff, List.map_cons, List.map_nil, List.toList_toArray, List.getElem?_cons_zero, List.getElem?_cons_succ, List.take_zero, List.all_nil, List.length_cons, List.length_nil, List.drop_zero, List.drop_succ_cons, if_true, if_false, reduceIte, reduceCtorEq, List.nil_append, List.cons_append, ne_eq, buildWp, buildSliceWp, fillV, fillE, allD, toD, makeSliceWp, appendWp, elsV, objOk, refsV, refsV.go, sliceWp, obnd, intV, convWp, minmaxWp, List.replicate, List.mapM_cons, List.mapM_nil, Option.pure_def, Option.bind_eq_bind, Option.bind_some, putCells, List.set_cons_zero, List.set_cons_succ, List.take_succ_cons, List.contains_nil, List.contains_cons, Nat.reduceBEq, List.flatMap_cons, List.flatMap_nil, List.all_cons, List.append_nil, List.length_map, List.getElem?_map, Option.map_some, tys0, tys1, tys2, tys3, tys4, tys5, tys6, i64, cntO, cell2O, reEl, Re.cells_eq re, iD, bD, h0, h1, h2, h11, h12, hlt, hk]
    refine callF_two hk0 (by simp [renV, reEl]) (by simp [refsV, refsV.go, reEl]) rfl rfl rfl rfl rfl rfl rfl ?_
    simp only [vsA, vsB, eq_self, hole, stepC, callK, footOf, allW, roFree, roIn, roOp, opReads, opAt, vIds, Op.operands, Call.operands, Array.toList_append, nilSlWp, Qend, gslot, dstOk, updO, updE, Nat.reduceShiftRight, Nat.reduceMod, ev, cv, binWp, intWp, unWp, nilWp, resWp, resL, resV, finWp, frzV, frzV.go, frzD, envOf, loadWp, mkVWp, storeWp, boxWp, allocWp, lenWp, indexAddrWp, fieldAddrWp, fieldWp, indexWp, partWp, elP, atG, tupWp, isPtr, Nat.reduceLT, Nat.reduceMul, Nat.reduceSub, Int.reduceToNat, Int.reduceNeg, Int.reduceLT, Int.reduceLE, Int.reduceEq, Nat.reduceEqDiff, Nat.reduceAdd, Nat.reduceLeDiff, List.map_cons, List.map_nil, List.toList_toArray, List.getElem?_cons_zero, List.getElem?_cons_succ, List.take_zero, List.all_nil, List.length_cons, List.length_nil, List.drop_zero, List.drop_succ_cons, if_true, if_false, reduceIte, reduceCtorEq, List.nil_append, List.cons_append, ne_eq, buildWp, buildSliceWp, fillV, fillE, allD, toD, makeSliceWp, appendWp, elsV, objOk, refsV, refsV.go, sliceWp, obnd, intV, convWp, minmaxWp, List.replicate, List.mapM_cons, List.mapM_nil, Option.pure_def, Option.bind_eq_bind, Option.bind_some, putCells, List.set_cons_zero, List.set_cons_succ, List.take_succ_cons, List.contains_nil, List.contains_cons, Nat.reduceBEq, List.flatMap_cons, List.flatMap_nil, List.all_cons, List.append_nil, List.length_map, List.getElem?_map, Option.map_some, tys0, tys1, tys2, tys3, tys4, tys5, tys6, i64, cntO, cell2O, reEl, Re.cells_eq re, iD, bD, h0, h1, h2, h11, h12]
    refine ⟨re.kids.length - (i + 1), _, _, by omega, Cln.refl, i + 1, rfl, hlt, ?_, ?_, ?_, ?_, ?_, ?_⟩ <;> (try simp only [keepE_app, List.contains_cons, List.contains_nil, Nat.reduceBEq, Bool.or_false, Bool.false_or, Bool.or_true, Bool.true_or, updE, trimE_upd, trimE_trim, trimE_app, Nat.reduceShiftRight, Nat.reduceMod, Nat.reduceEqDiff, if_true, if_false, reduceIte])
    · simpa [reEl, Re.cells_eq re, iD, bD] using h0
    · exact h1
    · exact h2
    · exact h11
    · rw [w64 _ (by omega)]; rfl
    · rw [hsum]; simp [Int.add_assoc]
  · have hie : i = re.kids.length := by omega
    subst hie
    simp only [vsA, vsB, eq_self, hole, stepC, callK, footOf, allW, roFree, roIn, roOp, opReads, opAt, vIds, Op.operands, Call.operands, Array.toList_append, nilSlWp, Qend, gslot, dstOk, updO, updE, Nat.reduceShiftRight, Nat.reduceMod, ev, cv, binWp, intWp, unWp, nilWp, resWp, resL, resV, finWp, frzV, frzV.go, frzD, envOf, loadWp, mkVWp, storeWp, boxWp, allocWp, lenWp, indexAddrWp, fieldAddrWp, fieldWp, indexWp, partWp, elP, atG, tupWp, isPtr, Nat.reduceLT, Nat.reduceMul, Nat.reduceSub, Int.reduceToNat, Int.reduceNeg, Int.reduceLT, Int.reduceLE, Int.reduceEq, Nat.reduceEqDiff, Nat.reduceAdd, Nat.reduceLeDiff, List.map_cons, List.map_nil, List.toList_toArray, List.getElem?_cons_zero, List.getElem?_cons_succ, List.take_zero, List.all_nil, List.length_cons, List.length_nil, List.drop_zero, List.drop_succ_cons, if_true, if_false, reduceIte, reduceCtorEq, List.nil_append, List.cons_append, ne_eq, buildWp, buildSliceWp, fillV, fillE, allD, toD, makeSliceWp, appendWp, elsV, objOk, refsV, refsV.go, sliceWp, obnd, intV, convWp, minmaxWp, List.replicate, List.mapM_cons, List.mapM_nil, Option.pure_def, Option.bind_eq_bind, Option.bind_some, putCells, List.set_cons_zero, List.set_cons_succ, List.take_succ_cons, List.contains_nil, List.contains_cons, Nat.reduceBEq, List.flatMap_cons, List.flatMap_nil, List.all_cons, List.append_nil, List.length_map, List.getElem?_map, Option.map_some, tys0, tys1, tys2, tys3, tys4, tys5, tys6, i64, cntO, cell2O, reEl, Re.cells_eq re, iD, bD, h0, h1, h2, h11, h12, Nat.lt_irrefl, List.take_length]
    rw [hsz]
    simp [Int.add_assoc]

theorem size_ok (re : Re) (hs : re.size ≤ 1000000000) : PureOK Try.prog 40 [reV re] (i64 re.size) := by
  refine fn_ok Try.func40 rfl Try.ntmps40 Try.results40 rfl 0 31 (by simp) (by simp) ?_
  simp only [vsA, vsB, eq_self, hole, stepC, callK, footOf, allW, roFree, roIn, roOp, opReads, opAt, vIds, Op.operands, Call.operands, Array.toList_append, nilSlWp, Qend, gslot, dstOk, updO, updE, Nat.reduceShiftRight, Nat.reduceMod, ev, cv, binWp, intWp, unWp, nilWp, resWp, resL, resV, finWp, frzV, frzV.go, frzD, envOf, loadWp, mkVWp, storeWp, boxWp, allocWp, lenWp, indexAddrWp, fieldAddrWp, fieldWp, indexWp, partWp, elP, atG, tupWp, isPtr, Nat.reduceLT, Nat.reduceMul, Nat.reduceSub, Int.reduceToNat, Int.reduceNeg, Int.reduceLT, Int.reduceLE, Int.reduceEq, Nat.reduceEqDiff, Nat.reduceAdd, Nat.reduceLeDiff, List.map_cons, List.map_nil, List.toList_toArray, List.getElem?_cons_zero, List.getElem?_cons_succ, List.take_zero, List.all_nil, List.length_cons, List.length_nil, List.drop_zero, List.drop_succ_cons, if_true, if_false, reduceIte, reduceCtorEq, List.nil_append, List.cons_append, ne_eq, buildWp, buildSliceWp, fillV, fillE, allD, toD, makeSliceWp, appendWp, elsV, objOk, refsV, refsV.go, sliceWp, obnd, intV, convWp, minmaxWp, List.replicate, List.mapM_cons, List.mapM_nil, Option.pure_def, Option.bind_eq_bind, Option.bind_some, putCells, List.set_cons_zero, List.set_cons_succ, List.take_succ_cons, List.contains_nil, List.contains_cons, Nat.reduceBEq, List.flatMap_cons, List.flatMap_nil, List.all_cons, List.append_nil, List.length_map, List.getElem?_map, Option.map_some, tys0, tys1, tys2, tys3, tys4, tys5, tys6, i64, reV_eq re, iD, bD]
  refine call_give [0] rfl ?_
  have hz := size_rec re 0 (by omega) (by omega)
  rw [Int.zero_add] at hz
  refine call_at2 (r' := .tu []) 1 2 (by decide) hz (by rw [reEl, Re.cells_eq]; rfl) (by simp [refsV, refsV.go, reEl]) rfl rfl rfl rfl rfl ?_
  simp only [vsA, vsB, eq_self, hole, stepC, callK, footOf, allW, roFree, roIn, roOp, opReads, opAt, vIds, Op.operands, Call.operands, Array.toList_append, nilSlWp, Qend, gslot, dstOk, updO, updE, Nat.reduceShiftRight, Nat.reduceMod, ev, cv, binWp, intWp, unWp, nilWp, resWp, resL, resV, finWp, frzV, frzV.go, frzD, envOf, loadWp, mkVWp, storeWp, boxWp, allocWp, lenWp, indexAddrWp, fieldAddrWp, fieldWp, indexWp, partWp, elP, atG, tupWp, isPtr, Nat.reduceLT, Nat.reduceMul, Nat.reduceSub, Int.reduceToNat, Int.reduceNeg, Int.reduceLT, Int.reduceLE, Int.reduceEq, Nat.reduceEqDiff, Nat.reduceAdd, Nat.reduceLeDiff, List.map_cons, List.map_nil, List.toList_toArray, List.getElem?_cons_zero, List.getElem?_cons_succ, List.take_zero, List.all_nil, List.length_cons, List.length_nil, List.drop_zero, List.drop_succ_cons, if_true, if_false, reduceIte, reduceCtorEq, List.nil_append, List.cons_append, ne_eq, buildWp, buildSliceWp, fillV, fillE, allD, toD, makeSliceWp, appendWp, elsV, objOk, refsV, refsV.go, sliceWp, obnd, intV, convWp, minmaxWp, List.replicate, List.mapM_cons, List.mapM_nil, Option.pure_def, Option.bind_eq_bind, Option.bind_some, putCells, List.set_cons_zero, List.set_cons_succ, List.take_succ_cons, List.contains_nil, List.contains_cons, Nat.reduceBEq, List.flatMap_cons, List.flatMap_nil, List.all_cons, List.append_nil, List.length_map, List.getElem?_map, Option.map_some, tys0, tys1, tys2, tys3, tys4, tys5, tys6, i64, killO, kill1, renO, renV, renV.go, cntO, cell2O]
  all_goals first | exact ⟨rfl, rfl⟩ | exact ⟨rfl, trivial⟩ | rfl | trivial | (rw [reV_eq]; rfl)

/-! ### Depth -/

mutual
def Re.depth : Re → Int
  | .mk _ _ kids _ _ _ _ _ => Re.depthL kids 0 + 1
def Re.depthL : List Re → Int → Int
  | [], a => a
  | k :: l, a => Re.depthL l (max a k.depth)
end

def maxL (l : List Int) : Int := l.foldl max 0

theorem Re.depthL_eq : ∀ (l : List Re) (a : Int), Re.depthL l a = (l.map Re.depth).foldl max a
  | [], a => by simp [Re.depthL]
  | k :: l, a => by simp [Re.depthL, Re.depthL_eq l]

theorem Re.depth_eq (re : Re) : re.depth = maxL (re.kids.map Re.depth) + 1 := by
  cases re; simp [Re.depth, Re.depthL_eq, Re.kids, maxL]

theorem maxL_snoc (l : List Int) (k : Int) : maxL (l ++ [k]) = max (maxL l) k := by simp [maxL, List.foldl_append]

theorem foldl_max_le {b : Int} : ∀ (l : List Int) (a : Int), a ≤ b → (∀ x ∈ l, x ≤ b) → l.foldl max a ≤ b
  | [], a, h, _ => h
  | x :: l, a, h, hl => foldl_max_le l (max a x) (by have := hl x (by simp); omega) (fun y hy => hl y (by simp [hy]))

theorem le_foldl_max : ∀ (l : List Int) (a : Int), a ≤ l.foldl max a
  | [], a => Int.le_refl _
  | x :: l, a => Int.le_trans (by omega) (le_foldl_max l (max a x))

theorem Re.depth_le (re : Re) : 0 ≤ re.depth ∧ re.depth ≤ re.size := by
  refine Re.ind (Q := fun re => 0 ≤ re.depth ∧ re.depth ≤ re.size) (fun re ih => ?_) re
  rw [Re.depth_eq, Re.size_eq]
  have h1 := le_foldl_max (re.kids.map Re.depth) 0
  have h2 : maxL (re.kids.map Re.depth) ≤ (Re.sizeL re.kids : Nat) := foldl_max_le _ _ (by omega) (fun x hx => by
    obtain ⟨k, hk, rfl⟩ := List.mem_map.1 hx
    have := Re.sizeL_mem hk
    have := (ih k hk).2
    omega)
  unfold maxL at *
  omega

def DepthOK (re : Re) : Prop := callWp Try.prog 84 [reEl re, .rf 0 0 0 0] [cellO 84] fun v s => v = i64 re.depth ∧ s = [cellO 84]

set_option maxRecDepth 100000 in
set_option maxHeartbeats 8000000 in
theorem depth_rec (re : Re) (hs : re.size ≤ 1000000000) : DepthOK re := by
  revert hs
  refine Re.ind (Q := fun re => re.size ≤ 1000000000 → DepthOK re) (fun re ih hs => ?_) re
  have hlen := Re.len_le re.kids
  have hsz := Re.size_eq re
  have hd := Re.depth_le re
  unfold DepthOK
  rw [Re.depth_eq] at hd ⊢
  refine fn_ok Try.func84 rfl Try.ntmps84 Try.results84 rfl 1 3131 (by simp) (by simp) ?_
  simp only [vsA, vsB, eq_self, hole, stepC, callK, footOf, allW, roFree, roIn, roOp, opReads, opAt, vIds, Op.operands, Call.operands, Array.toList_append, nilSlWp, Qend, gslot, dstOk, updO, updE, Nat.reduceShiftRight, Nat.reduceMod, ev, cv, binWp, intWp, unWp, nilWp, resWp, resL, resV, finWp, frzV, frzV.go, frzD, envOf, loadWp, mkVWp, storeWp, boxWp, allocWp, lenWp, indexAddrWp, fieldAddrWp, fieldWp, indexWp, partWp, elP, atG, tupWp, isPtr, Nat.reduceLT, Nat.reduceMul, Nat.reduceSub, Int.reduceToNat, Int.reduceNeg, Int.reduceLT, Int.reduceLE, Int.reduceEq, Nat.reduceEqDiff, Nat.reduceAdd, Nat.reduceLeDiff, List.map_cons, List.map_nil, List.toList_toArray, List.getElem?_cons_zero, List.getElem?_cons_succ, List.take_zero, List.all_nil, List.length_cons, List.length_nil, List.drop_zero, List.drop_succ_cons, if_true, if_false, reduceIte, reduceCtorEq, List.nil_append, List.cons_append, ne_eq, buildWp, buildSliceWp, fillV, fillE, allD, toD, makeSliceWp, appendWp, elsV, objOk, refsV, refsV.go, sliceWp, obnd, intV, convWp, minmaxWp, List.replicate, List.mapM_cons, List.mapM_nil, Option.pure_def, Option.bind_eq_bind, Option.bind_some, putCells, List.set_cons_zero, List.set_cons_succ, List.take_succ_cons, List.contains_nil, List.contains_cons, Nat.reduceBEq, List.flatMap_cons, List.flatMap_nil, List.all_cons, List.append_nil, List.length_map, List.getElem?_map, Option.map_some, tys0, tys1, tys2, tys3, tys4, tys5, tys6, i64, reEl, Re.cells_eq re, iD, bD, cellO]
  refine loop_rule (fun n e s => ∃ i : Nat, n = re.kids.length - i ∧ i ≤ re.kids.length ∧ e 0 = reEl re ∧ e 1 = .rf 0 0 0 0 ∧ e 4 = i64 (maxL ((re.kids.take i).map Re.depth)) ∧ e 10 = i64 re.kids.length ∧ e 11 = i64 i ∧ s = [cellO 84])
    ⟨_, _, _, Cln.refl, 0, rfl, by omega, by simp [reEl, Re.cells_eq re, iD, bD]; rfl, rfl, rfl, rfl, rfl, rfl⟩ ?_
  rintro n e s ⟨i, rfl, hi, h0, h1, h4, h10, h11, rfl⟩
  rcases Nat.lt_or_ge i re.kids.length with hlt | hge
  · obtain ⟨k, hk⟩ : ∃ k, re.kids[i]? = some k := ⟨_, List.getElem?_eq_getElem hlt⟩
    have hm := List.mem_of_getElem? hk
    have hks := Re.size_kid hm
    simp only [vsA, vsB, eq_self, hole, stepC, callK, footOf, allW, roFree, roIn, roOp, opReads, opAt, vIds, Op.operands, Call.operands, Array.toList_append, nilSlWp, Qend, gslot, dstOk, updO, updE, Nat.reduceShiftRight, Nat.reduceMod, ev, cv, binWp, intWp, unWp, nilWp, resWp, resL, resV, finWp, frzV, frzV.go, frzD, envOf, loadWp, mkVWp, storeWp, boxWp, allocWp, lenWp, indexAddrWp, fieldAddrWp, fieldWp, indexWp, partWp, elP, atG, tupWp, isPtr, Nat.reduceLT, Nat.reduceMul, Nat.reduceSub, Int.reduceToNat, Int.reduceNeg, Int.reduceLT, Int.reduceLE, Int.reduceEq, Nat.reduceEqDiff, Nat.reduceAdd, Nat.reduceLeDiff, List.map_cons, List.map_nil, List.toList_toArray, List.getElem?_cons_zero, List.getElem?_cons_succ, List.take_zero, List.all_nil, List.length_cons, List.length_nil, List.drop_zero, List.drop_succ_cons, if_true, if_false, reduceIte, reduceCtorEq, List.nil_append, List.cons_append, ne_eq, buildWp, buildSliceWp, fillV, fillE, allD, toD, makeSliceWp, appendWp, elsV, objOk, refsV, refsV.go, sliceWp, obnd, intV, convWp, minmaxWp, List.replicate, List.mapM_cons, List.mapM_nil, Option.pure_def, Option.bind_eq_bind, Option.bind_some, putCells, List.set_cons_zero, List.set_cons_succ, List.take_succ_cons, List.contains_nil, List.contains_cons, Nat.reduceBEq, List.flatMap_cons, List.flatMap_nil, List.all_cons, List.append_nil, List.length_map, List.getElem?_map, Option.map_some, tys0, tys1, tys2, tys3, tys4, tys5, tys6, i64, h0, h1, h4, h10, h11, hlt, cellO]
    refine draw_c mix [] [(1, [0], []), (8, [0], [0])] (by rfl) ?_
    simp only [vsA, vsB, eq_self, hole, stepC, callK, footOf, allW, roFree, roIn, roOp, opReads, opAt, vIds, Op.operands, Call.operands, Array.toList_append, nilSlWp, Qend, gslot, dstOk, updO, updE, Nat.reduceShiftRight, Nat.reduceMod, ev, cv, binWp, intWp, unWp, nilWp, resWp, resL, resV, finWp, frzV, frzV.go, frzD, envOf, loadWp, mkVWp, storeWp, boxWp, allocWp, lenWp, indexAddrWp, fieldAddrWp, fieldWp, indexWp, partWp, elP, atG, tupWp, isPtr, Nat.reduceLT, Nat.reduceMul, Nat.reduceSub, Int.reduceToNat, Int.reduceNeg, Int.reduceLT, Int.reduceLE, Int.reduceEq, Nat.reduceEqDiff, Nat.reduceAdd, Nat.reduceLeDiff, List.map_cons, List.map_nil, List.toList_toArray, List.getElem?_cons_zero, List.getElem?_cons_succ, List.take_zero, List.all_nil, List.length_cons, List.length_nil, List.drop_zero, List.drop_succ_cons, if_true, if_false, reduceIte, reduceCtorEq, List.nil_append, List.cons_append, ne_eq, buildWp, buildSliceWp, fillV, fillE, allD, toD, makeSliceWp, appendWp, elsV, objOk, refsV, refsV.go, sliceWp, obnd, intV, convWp, minmaxWp, List.replicate, List.mapM_cons, List.mapM_nil, Option.pure_def, Option.bind_eq_bind, Option.bind_some, putCells, List.set_cons_zero, List.set_cons_succ, List.take_succ_cons, List.contains_nil, List.contains_cons, Nat.reduceBEq, List.flatMap_cons, List.flatMap_nil, List.all_cons, List.append_nil, List.length_map, List.getElem?_map, Option.map_some, tys0, tys1, tys2, tys3, tys4, tys5, tys6, i64, h0, h1, h4, h10, h11, hlt, hk, reEl, Re.cells_eq re, iD, bD]
    refine callF_one (ih k hm (by omega)) rfl rfl rfl rfl rfl rfl ?_
    simp only [vsA, vsB, eq_self, hole, stepC, callK, footOf, allW, roFree, roIn, roOp, opReads, opAt, vIds, Op.operands, Call.operands, Array.toList_append, nilSlWp, Qend, gslot, dstOk, updO, updE, Nat.reduceShiftRight, Nat.reduceMod, ev, cv, binWp, intWp, unWp, nilWp, resWp, resL, resV, finWp, frzV, frzV.go, frzD, envOf, loadWp, mkVWp, storeWp, boxWp, allocWp, lenWp, indexAddrWp, fieldAddrWp, fieldWp, indexWp, partWp, elP, atG, tupWp, isPtr, Nat.reduceLT, Nat.reduceMul, Nat.reduceSub, Int.reduceToNat, Int.reduceNeg, Int.reduceLT, Int.reduceLE, Int.reduceEq, Nat.reduceEqDiff, Nat.reduceAdd, Nat.reduceLeDiff, List.map_cons, List.map_nil, List.toList_toArray, List.getElem?_cons_zero, List.getElem?_cons_succ, List.take_zero, List.all_nil, List.length_cons, List.length_nil, List.drop_zero, List.drop_succ_cons, if_true, if_false, reduceIte, reduceCtorEq, List.nil_append, List.cons_append, ne_eq, buildWp, buildSliceWp, fillV, fillE, allD, toD, makeSliceWp, appendWp, elsV, objOk, refsV, refsV.go, sliceWp, obnd, intV, convWp, minmaxWp, List.replicate, List.mapM_cons, List.mapM_nil, Option.pure_def, Option.bind_eq_bind, Option.bind_some, putCells, List.set_cons_zero, List.set_cons_succ, List.take_succ_cons, List.contains_nil, List.contains_cons, Nat.reduceBEq, List.flatMap_cons, List.flatMap_nil, List.all_cons, List.append_nil, List.length_map, List.getElem?_map, Option.map_some, tys0, tys1, tys2, tys3, tys4, tys5, tys6, i64, h0, h1, h4, h10, h11, cellO]
    refine ⟨re.kids.length - (i + 1), _, _, by omega, Cln.refl, i + 1, rfl, hlt, ?_, ?_, ?_, ?_, ?_, rfl⟩ <;> (try simp only [keepE_app, List.contains_cons, List.contains_nil, Nat.reduceBEq, Bool.or_false, Bool.false_or, Bool.or_true, Bool.true_or, updE, trimE_upd, trimE_trim, trimE_app, Nat.reduceShiftRight, Nat.reduceMod, Nat.reduceEqDiff, if_true, if_false, reduceIte])
    · simpa [reEl, Re.cells_eq re, iD, bD] using h0
    · exact h1
    · rw [take_get hk, List.map_append, List.map_cons, List.map_nil, maxL_snoc]
    · exact h10
    · rw [w64 _ (by omega)]; rfl
  · have hie : i = re.kids.length := by omega
    subst hie
    rw [List.take_length] at h4
    have w1 : IntKind.i64.wrap (maxL (re.kids.map Re.depth) + 1) = maxL (re.kids.map Re.depth) + 1 := w64 _ (by omega)
    simp only [vsA, vsB, eq_self, hole, stepC, callK, footOf, allW, roFree, roIn, roOp, opReads, opAt, vIds, Op.operands, Call.operands, Array.toList_append, nilSlWp, Qend, gslot, dstOk, updO, updE, Nat.reduceShiftRight, Nat.reduceMod, ev, cv, binWp, intWp, unWp, nilWp, resWp, resL, resV, finWp, frzV, frzV.go, frzD, envOf, loadWp, mkVWp, storeWp, boxWp, allocWp, lenWp, indexAddrWp, fieldAddrWp, fieldWp, indexWp, partWp, elP, atG, tupWp, isPtr, Nat.reduceLT, Nat.reduceMul, Nat.reduceSub, Int.reduceToNat, Int.reduceNeg, Int.reduceLT, Int.reduceLE, Int.reduceEq, Nat.reduceEqDiff, Nat.reduceAdd, Nat.reduceLeDiff, List.map_cons, List.map_nil, List.toList_toArray, List.getElem?_cons_zero, List.getElem?_cons_succ, List.take_zero, List.all_nil, List.length_cons, List.length_nil, List.drop_zero, List.drop_succ_cons, if_true, if_false, reduceIte, reduceCtorEq, List.nil_append, List.cons_append, ne_eq, buildWp, buildSliceWp, fillV, fillE, allD, toD, makeSliceWp, appendWp, elsV, objOk, refsV, refsV.go, sliceWp, obnd, intV, convWp, minmaxWp, List.replicate, List.mapM_cons, List.mapM_nil, Option.pure_def, Option.bind_eq_bind, Option.bind_some, putCells, List.set_cons_zero, List.set_cons_succ, List.take_succ_cons, List.contains_nil, List.contains_cons, Nat.reduceBEq, List.flatMap_cons, List.flatMap_nil, List.all_cons, List.append_nil, List.length_map, List.getElem?_map, Option.map_some, tys0, tys1, tys2, tys3, tys4, tys5, tys6, i64, h0, h1, h4, h10, h11, cellO, Nat.lt_irrefl, w1]
    all_goals first | exact ⟨rfl, rfl⟩ | exact ⟨rfl, trivial⟩ | rfl | trivial | (rw [reV_eq]; rfl)

theorem depth_ok (re : Re) (hs : re.size ≤ 1000000000) : PureOK Try.prog 43 [reV re] (i64 re.depth) := by
  refine fn_ok Try.func43 rfl Try.ntmps43 Try.results43 rfl 0 15 (by simp) (by simp) ?_
  simp only [vsA, vsB, eq_self, hole, stepC, callK, footOf, allW, roFree, roIn, roOp, opReads, opAt, vIds, Op.operands, Call.operands, Array.toList_append, nilSlWp, Qend, gslot, dstOk, updO, updE, Nat.reduceShiftRight, Nat.reduceMod, ev, cv, binWp, intWp, unWp, nilWp, resWp, resL, resV, finWp, frzV, frzV.go, frzD, envOf, loadWp, mkVWp, storeWp, boxWp, allocWp, lenWp, indexAddrWp, fieldAddrWp, fieldWp, indexWp, partWp, elP, atG, tupWp, isPtr, Nat.reduceLT, Nat.reduceMul, Nat.reduceSub, Int.reduceToNat, Int.reduceNeg, Int.reduceLT, Int.reduceLE, Int.reduceEq, Nat.reduceEqDiff, Nat.reduceAdd, Nat.reduceLeDiff, List.map_cons, List.map_nil, List.toList_toArray, List.getElem?_cons_zero, List.getElem?_cons_succ, List.take_zero, List.all_nil, List.length_cons, List.length_nil, List.drop_zero, List.drop_succ_cons, if_true, if_false, reduceIte, reduceCtorEq, List.nil_append, List.cons_append, ne_eq, buildWp, buildSliceWp, fillV, fillE, allD, toD, makeSliceWp, appendWp, elsV, objOk, refsV, refsV.go, sliceWp, obnd, intV, convWp, minmaxWp, List.replicate, List.mapM_cons, List.mapM_nil, Option.pure_def, Option.bind_eq_bind, Option.bind_some, putCells, List.set_cons_zero, List.set_cons_succ, List.take_succ_cons, List.contains_nil, List.contains_cons, Nat.reduceBEq, List.flatMap_cons, List.flatMap_nil, List.all_cons, List.append_nil, List.length_map, List.getElem?_map, Option.map_some, tys0, tys1, tys2, tys3, tys4, tys5, tys6, i64, reV_eq re, iD, bD]
  refine call_give [0] rfl ?_
  refine call_at (r' := i64 re.depth) 1 (depth_rec re hs) (by rw [reEl, Re.cells_eq]; rfl) rfl rfl rfl rfl ?_
  simp only [vsA, vsB, eq_self, hole, stepC, callK, footOf, allW, roFree, roIn, roOp, opReads, opAt, vIds, Op.operands, Call.operands, Array.toList_append, nilSlWp, Qend, gslot, dstOk, updO, updE, Nat.reduceShiftRight, Nat.reduceMod, ev, cv, binWp, intWp, unWp, nilWp, resWp, resL, resV, finWp, frzV, frzV.go, frzD, envOf, loadWp, mkVWp, storeWp, boxWp, allocWp, lenWp, indexAddrWp, fieldAddrWp, fieldWp, indexWp, partWp, elP, atG, tupWp, isPtr, Nat.reduceLT, Nat.reduceMul, Nat.reduceSub, Int.reduceToNat, Int.reduceNeg, Int.reduceLT, Int.reduceLE, Int.reduceEq, Nat.reduceEqDiff, Nat.reduceAdd, Nat.reduceLeDiff, List.map_cons, List.map_nil, List.toList_toArray, List.getElem?_cons_zero, List.getElem?_cons_succ, List.take_zero, List.all_nil, List.length_cons, List.length_nil, List.drop_zero, List.drop_succ_cons, if_true, if_false, reduceIte, reduceCtorEq, List.nil_append, List.cons_append, ne_eq, buildWp, buildSliceWp, fillV, fillE, allD, toD, makeSliceWp, appendWp, elsV, objOk, refsV, refsV.go, sliceWp, obnd, intV, convWp, minmaxWp, List.replicate, List.mapM_cons, List.mapM_nil, Option.pure_def, Option.bind_eq_bind, Option.bind_some, putCells, List.set_cons_zero, List.set_cons_succ, List.take_succ_cons, List.contains_nil, List.contains_cons, Nat.reduceBEq, List.flatMap_cons, List.flatMap_nil, List.all_cons, List.append_nil, List.length_map, List.getElem?_map, Option.map_some, tys0, tys1, tys2, tys3, tys4, tys5, tys6, i64, killO, kill1, renO, renV, renV.go, cellO]
  all_goals first | exact ⟨rfl, rfl⟩ | exact ⟨rfl, trivial⟩ | rfl | trivial | (rw [reV_eq]; rfl)

end Go.Proofs.Ytafbdphblilenaa
