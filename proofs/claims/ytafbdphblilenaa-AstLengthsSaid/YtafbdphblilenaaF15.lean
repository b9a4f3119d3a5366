import Derived.Test.YtafbdphblilenaaF13
set_option linter.unusedSimpArgs false
set_option linter.unusedVariables false
namespace Go.Proofs.Ytafbdphblilenaa
open Go.VL

def anulOp (op mn : Int) (l : List Bool) : Bool :=
  if op = 0 ∨ op = 6 ∨ op = 7 ∨ op = 8 ∨ op = 11 then true
  else if op = 2 then l.all id
  else if op = 4 then (if mn = 0 then true else l.any id)
  else if op = 3 ∨ op = 10 ∨ op = 5 ∨ op = 9 then l.any id
  else false

mutual
def Re.anul : Re → Bool
  | .mk op _ kids mn _ _ _ _ => anulOp op mn (Re.anulL kids)
def Re.anulL : List Re → List Bool
  | [] => []
  | k :: l => k.anul :: Re.anulL l
end

theorem Re.anulL_eq : ∀ l : List Re, Re.anulL l = l.map Re.anul
  | [] => by simp [Re.anulL]
  | k :: l => by simp [Re.anulL, Re.anulL_eq l]

theorem Re.anul_eq (re : Re) : re.anul = anulOp re.op re.mn (re.kids.map Re.anul) := by
  cases re; simp [Re.anul, Re.anulL_eq, Re.op, Re.mn, Re.kids]

def NulOK (re : Re) : Prop := callWp Try.prog 58 [reEl re, .rf 0 0 0 0] [cellO 58] fun v s => v = bV re.anul ∧ s = [cellO 58]

set_option maxRecDepth 100000 in
set_option maxHeartbeats 8000000 in
theorem nul_cat (re : Re) (ih : ∀ k ∈ re.kids, k.fine = true → NulOK k) (hs : re.fine = true) (o2 : re.op = 2) : NulOK re := by
  obtain ⟨hset1, hlen, hfk⟩ := Re.fine_spec hs
  have hle : re.anul = (re.kids.map Re.anul).all id := by rw [Re.anul_eq, o2]; rfl
  unfold NulOK
  rw [hle]
  refine fn_ok Try.func58 rfl Try.ntmps58 Try.results58 rfl 1 13519594987718203 (by simp) (by simp) ?_
  simp only [vsA, vsB, eq_self, hole, stepC, callK, footOf, allW, roFree, roIn, roOp, opReads, opAt, vIds, Op.operands, Call.operands, Array.toList_append, nilSlWp, Qend, gslot, dstOk, updO, updE, Nat.reduceShiftRight, Nat.reduceMod, ev, cv, binWp, intWp, unWp, nilWp, resWp, resL, resV, finWp, frzV, frzV.go, frzD, envOf, loadWp, mkVWp, storeWp, boxWp, allocWp, lenWp, indexAddrWp, fieldAddrWp, fieldWp, indexWp, partWp, elP, atG, tupWp, isPtr, Nat.reduceLT, Nat.reduceMul, Nat.reduceSub, Int.reduceToNat, Int.reduceNeg, Int.reduceLT, Int.reduceLE, Int.reduceEq, Nat.reduceEqDiff, Nat.reduceAdd, Nat.reduceLeDiff, List.map_cons, List.map_nil, List.toList_toArray, List.getElem?_cons_zero, List.getElem?_cons_succ, List.take_zero, List.all_nil, List.length_cons, List.length_nil, List.drop_zero, List.drop_succ_cons, if_true, if_false, reduceIte, reduceCtorEq, List.nil_append, List.cons_append, ne_eq, buildWp, buildSliceWp, fillV, fillE, allD, toD, makeSliceWp, appendWp, elsV, objOk, refsV, refsV.go, sliceWp, obnd, intV, convWp, minmaxWp, List.replicate, List.mapM_cons, List.mapM_nil, Option.pure_def, Option.bind_eq_bind, Option.bind_some, putCells, List.set_cons_zero, List.set_cons_succ, List.take_succ_cons, List.contains_nil, List.contains_cons, Nat.reduceBEq, List.flatMap_cons, List.flatMap_nil, List.all_cons, List.append_nil, List.length_map, List.getElem?_map, Option.map_some, tys0, tys1, tys2, tys3, tys4, tys5, tys6, i64, reEl, Re.cells_eq re, iD, bD, o2, cellO]
  refine loop_rule (fun n e s => ∃ i : Nat, n = re.kids.length - i ∧ i ≤ re.kids.length ∧ e 0 = reEl re ∧ e 1 = .rf 0 0 0 0 ∧ (∀ x ∈ re.kids.take i, x.anul = true) ∧ e 22 = i64 re.kids.length ∧ e 23 = i64 i ∧ s = [cellO 58])
    ⟨_, _, _, Cln.refl, 0, rfl, by omega, by simp [reEl, Re.cells_eq re, iD, bD, o2]; rfl, rfl, by simp, rfl, rfl, rfl⟩ ?_
  rintro n e s ⟨i, rfl, hi, h0, h1, hall, h22, h23, rfl⟩
  rcases Nat.lt_or_ge i re.kids.length with hlt | hge
  · obtain ⟨k, hk⟩ : ∃ k, re.kids[i]? = some k := ⟨_, List.getElem?_eq_getElem hlt⟩
    have hm := List.mem_of_getElem? hk
    have hks := hfk k hm
    simp only [vsA, vsB, eq_self, hole, stepC, callK, footOf, allW, roFree, roIn, roOp, opReads, opAt, vIds, Op.operands, Call.operands, Array.toList_append, nilSlWp, Qend, gslot, dstOk, updO, updE, Nat.reduceShiftRight, Nat.reduceMod, ev, cv, binWp, intWp, unWp, nilWp, resWp, resL, resV, finWp, frzV, frzV.go, frzD, envOf, loadWp, mkVWp, storeWp, boxWp, allocWp, lenWp, indexAddrWp, fieldAddrWp, fieldWp, indexWp, partWp, elP, atG, tupWp, isPtr, Nat.reduceLT, Nat.reduceMul, Nat.reduceSub, Int.reduceToNat, Int.reduceNeg, Int.reduceLT, Int.reduceLE, Int.reduceEq, Nat.reduceEqDiff, Nat.reduceAdd, Nat.reduceLeDiff, List.map_cons, List.map_nil, List.toList_toArray, List.getElem?_cons_zero, List.getElem?_cons_succ, List.take_zero, List.all_nil, List.length_cons, List.length_nil, List.drop_zero, List.drop_succ_cons, if_true, if_false, reduceIte, reduceCtorEq, List.nil_append, List.cons_append, ne_eq, buildWp, buildSliceWp, fillV, fillE, allD, toD, makeSliceWp, appendWp, elsV, objOk, refsV, refsV.go, sliceWp, obnd, intV, convWp, minmaxWp, List.replicate, List.mapM_cons, List.mapM_nil, Option.pure_def, Option.bind_eq_bind, Option.bind_some, putCells, List.set_cons_zero, List.set_cons_succ, List.take_succ_cons, List.contains_nil, List.contains_cons, Nat.reduceBEq, List.flatMap_cons, List.flatMap_nil, List.all_cons, List.append_nil, List.length_map, List.getElem?_map, Option.map_some, tys0, tys1, tys2, tys3, tys4, tys5, tys6, h0, h1, h22, h23, i64, hlt, cellO]
    refine draw_c mix [] [(0, [0], []), (7, [0], [0])] (by rfl) ?_
    simp only [vsA, vsB, eq_self, hole, stepC, callK, footOf, allW, roFree, roIn, roOp, opReads, opAt, vIds, Op.operands, Call.operands, Array.toList_append, nilSlWp, Qend, gslot, dstOk, updO, updE, Nat.reduceShiftRight, Nat.reduceMod, ev, cv, binWp, intWp, unWp, nilWp, resWp, resL, resV, finWp, frzV, frzV.go, frzD, envOf, loadWp, mkVWp, storeWp, boxWp, allocWp, lenWp, indexAddrWp, fieldAddrWp, fieldWp, indexWp, partWp, elP, atG, tupWp, isPtr, Nat.reduceLT, Nat.reduceMul, Nat.reduceSub, Int.reduceToNat, Int.reduceNeg, Int.reduceLT, Int.reduceLE, Int.reduceEq, Nat.reduceEqDiff, Nat.reduceAdd, Nat.reduceLeDiff, List.map_cons, List.map_nil, List.toList_toArray, List.getElem?_cons_zero, List.getElem?_cons_succ, List.take_zero, List.all_nil, List.length_cons, List.length_nil, List.drop_zero, List.drop_succ_cons, if_true, if_false, reduceIte, reduceCtorEq, List.nil_append, List.cons_append, ne_eq, buildWp, buildSliceWp, fillV, fillE, allD, toD, makeSliceWp, appendWp, elsV, objOk, refsV, refsV.go, sliceWp, obnd, intV, convWp, minmaxWp, List.replicate, List.mapM_cons, List.mapM_nil, Option.pure_def, Option.bind_eq_bind, Option.bind_some, putCells, List.set_cons_zero, List.set_cons_succ, List.take_succ_cons, List.contains_nil, List.contains_cons, Nat.reduceBEq, List.flatMap_cons, List.flatMap_nil, List.all_cons, List.append_nil, List.length_map, List.getElem?_map, Option.map_some, tys0, tys1, tys2, tys3, tys4, tys5, tys6, h0, h1, h22, h23, i64, hlt, hk, reEl, Re.cells_eq re, iD, bD]
    refine callF_one (ih k hm hks) rfl rfl rfl rfl rfl rfl ?_
    cases hkn : k.anul with
    | true =>
      simp only [vsA, vsB, eq_self, hole, stepC, callK, footOf, allW, roFree, roIn, roOp, opReads, opAt, vIds, Op.operands, Call.operands, Array.toList_append, nilSlWp, Qend, gslot, dstOk, updO, updE, Nat.reduceShiftRight, Nat.reduceMod, ev, cv, binWp, intWp, unWp, nilWp, resWp, resL, resV, finWp, frzV, frzV.go, frzD, envOf, loadWp, mkVWp, storeWp, boxWp, allocWp, lenWp, indexAddrWp, fieldAddrWp, fieldWp, indexWp, partWp, elP, atG, tupWp, isPtr, Nat.reduceLT, Nat.reduceMul, Nat.reduceSub, Int.reduceToNat, Int.reduceNeg, Int.reduceLT, Int.reduceLE, Int.reduceEq, Nat.reduceEqDiff, Nat.reduceAdd, Nat.reduceLeDiff, List.map_cons, List.map_nil, List.toList_toArray, List.getElem?_cons_zero, List.getElem?_cons_succ, List.take_zero, List.all_nil, List.length_cons, List.length_nil, List.drop_zero, List.drop_succ_cons, if_true, if_false, reduceIte, reduceCtorEq, List.nil_append, List.cons_append, ne_eq, buildWp, buildSliceWp, fillV, fillE, allD, toD, makeSliceWp, appendWp, elsV, objOk, refsV, refsV.go, sliceWp, obnd, intV, convWp, minmaxWp, List.replicate, List.mapM_cons, List.mapM_nil, Option.pure_def, Option.bind_eq_bind, Option.bind_some, putCells, List.set_cons_zero, List.set_cons_succ, List.take_succ_cons, List.contains_nil, List.contains_cons, Nat.reduceBEq, List.flatMap_cons, List.flatMap_nil, List.all_cons, List.append_nil, List.length_map, List.getElem?_map, Option.map_some, tys0, tys1, tys2, tys3, tys4, tys5, tys6, h0, h1, h22, h23, i64, cellO, bV, hkn]
      refine ⟨re.kids.length - (i + 1), _, _, by omega, Cln.refl, i + 1, rfl, hlt, ?_, ?_, ?_, ?_, ?_, rfl⟩ <;> (try simp only [keepE_app, List.contains_cons, List.contains_nil, Nat.reduceBEq, Bool.or_false, Bool.false_or, Bool.or_true, Bool.true_or, updE, trimE_upd, trimE_trim, trimE_app, Nat.reduceShiftRight, Nat.reduceMod, Nat.reduceEqDiff, if_true, if_false, reduceIte])
      · simpa [reEl, Re.cells_eq re, iD, bD] using h0
      · exact h1
      · intro x hx
        rw [take_get hk] at hx
        rcases List.mem_append.1 hx with hx | hx
        · exact hall x hx
        · rw [List.mem_singleton.1 hx]; exact hkn
      · exact h22
      · rw [w64 _ (by omega)]; rfl
    | false =>
      simp only [vsA, vsB, eq_self, hole, stepC, callK, footOf, allW, roFree, roIn, roOp, opReads, opAt, vIds, Op.operands, Call.operands, Array.toList_append, nilSlWp, Qend, gslot, dstOk, updO, updE, Nat.reduceShiftRight, Nat.reduceMod, ev, cv, binWp, intWp, unWp, nilWp, resWp, resL, resV, finWp, frzV, frzV.go, frzD, envOf, loadWp, mkVWp, storeWp, boxWp, allocWp, lenWp, indexAddrWp, fieldAddrWp, fieldWp, indexWp, partWp, elP, atG, tupWp, isPtr, Nat.reduceLT, Nat.reduceMul, Nat.reduceSub, Int.reduceToNat, Int.reduceNeg, Int.reduceLT, Int.reduceLE, Int.reduceEq, Nat.reduceEqDiff, Nat.reduceAdd, Nat.reduceLeDiff, List.map_cons, List.map_nil, List.toList_toArray, List.getElem?_cons_zero, List.getElem?_cons_succ, List.take_zero, List.all_nil, List.length_cons, List.length_nil, List.drop_zero, List.drop_succ_cons, if_true, if_false, reduceIte, reduceCtorEq, List.nil_append, List.cons_append, ne_eq, buildWp, buildSliceWp, fillV, fillE, allD, toD, makeSliceWp, appendWp, elsV, objOk, refsV, refsV.go, sliceWp, obnd, intV, convWp, minmaxWp, List.replicate, List.mapM_cons, List.mapM_nil, Option.pure_def, Option.bind_eq_bind, Option.bind_some, putCells, List.set_cons_zero, List.set_cons_succ, List.take_succ_cons, List.contains_nil, List.contains_cons, Nat.reduceBEq, List.flatMap_cons, List.flatMap_nil, List.all_cons, List.append_nil, List.length_map, List.getElem?_map, Option.map_some, tys0, tys1, tys2, tys3, tys4, tys5, tys6, h0, h1, h22, h23, i64, cellO, bV, hkn]
      have : (re.kids.map Re.anul).all id = false := by rw [List.all_eq_false]; exact ⟨false, List.mem_map.2 ⟨k, hm, hkn⟩, by simp⟩
      rw [this]
      all_goals first | exact ⟨rfl, rfl⟩ | exact ⟨rfl, trivial⟩ | rfl | trivial | (rw [reV_eq]; rfl)
  · have hie : i = re.kids.length := by omega
    subst hie
    rw [List.take_length] at hall
    have : (re.kids.map Re.anul).all id = true := by rw [List.all_eq_true]; intro x hx; obtain ⟨y, hy, rfl⟩ := List.mem_map.1 hx; exact hall y hy
    rw [this]
    simp only [vsA, vsB, eq_self, hole, stepC, callK, footOf, allW, roFree, roIn, roOp, opReads, opAt, vIds, Op.operands, Call.operands, Array.toList_append, nilSlWp, Qend, gslot, dstOk, updO, updE, Nat.reduceShiftRight, Nat.reduceMod, ev, cv, binWp, intWp, unWp, nilWp, resWp, resL, resV, finWp, frzV, frzV.go, frzD, envOf, loadWp, mkVWp, storeWp, boxWp, allocWp, lenWp, indexAddrWp, fieldAddrWp, fieldWp, indexWp, partWp, elP, atG, tupWp, isPtr, Nat.reduceLT, Nat.reduceMul, Nat.reduceSub, Int.reduceToNat, Int.reduceNeg, Int.reduceLT, Int.reduceLE, Int.reduceEq, Nat.reduceEqDiff, Nat.reduceAdd, Nat.reduceLeDiff, List.map_cons, List.map_nil, List.toList_toArray, List.getElem?_cons_zero, List.getElem?_cons_succ, List.take_zero, List.all_nil, List.length_cons, List.length_nil, List.drop_zero, List.drop_succ_cons, if_true, if_false, reduceIte, reduceCtorEq, List.nil_append, List.cons_append, ne_eq, buildWp, buildSliceWp, fillV, fillE, allD, toD, makeSliceWp, appendWp, elsV, objOk, refsV, refsV.go, sliceWp, obnd, intV, convWp, minmaxWp, List.replicate, List.mapM_cons, List.mapM_nil, Option.pure_def, Option.bind_eq_bind, Option.bind_some, putCells, List.set_cons_zero, List.set_cons_succ, List.take_succ_cons, List.contains_nil, List.contains_cons, Nat.reduceBEq, List.flatMap_cons, List.flatMap_nil, List.all_cons, List.append_nil, List.length_map, List.getElem?_map, Option.map_some, tys0, tys1, tys2, tys3, tys4, tys5, tys6, h0, h1, h22, h23, i64, cellO, Nat.lt_irrefl, bV]
    all_goals first | exact ⟨rfl, rfl⟩ | exact ⟨rfl, trivial⟩ | rfl | trivial | (rw [reV_eq]; rfl)

set_option maxRecDepth 100000 in
set_option maxHeartbeats 8000000 in
theorem nul_any (re : Re) (ih : ∀ k ∈ re.kids, k.fine = true → NulOK k) (hs : re.fine = true) (o : (re.op = 4 ∧ ¬ re.mn = 0) ∨ re.op = 3 ∨ re.op = 10 ∨ re.op = 5 ∨ re.op = 9) : NulOK re := by
  obtain ⟨hset1, hlen, hfk⟩ := Re.fine_spec hs
  have hle : re.anul = (re.kids.map Re.anul).any id := by
    rw [Re.anul_eq]; rcases o with ⟨o, om⟩ | o | o | o | o <;> rw [o]
    · simp [anulOp, om]
    all_goals rfl
  unfold NulOK
  rw [hle]
  obtain ⟨o2, om⟩ : (re.op = 4 ∨ re.op = 3 ∨ re.op = 10 ∨ re.op = 5 ∨ re.op = 9) ∧ (re.op = 4 → ¬ re.mn = 0) := by
    rcases o with ⟨o, om⟩ | o | o | o | o <;> simp [o] <;> exact om
  rcases o2 with o2 | o2 | o2 | o2 | o2
  all_goals
    refine fn_ok Try.func58 rfl Try.ntmps58 Try.results58 rfl 1 13519594987718203 (by simp) (by simp) ?_
    simp only [vsA, vsB, eq_self, hole, stepC, callK, footOf, allW, roFree, roIn, roOp, opReads, opAt, vIds, Op.operands, Call.operands, Array.toList_append, nilSlWp, Qend, gslot, dstOk, updO, updE, Nat.reduceShiftRight, Nat.reduceMod, ev, cv, binWp, intWp, unWp, nilWp, resWp, resL, resV, finWp, frzV, frzV.go, frzD, envOf, loadWp, mkVWp, storeWp, boxWp, allocWp, lenWp, indexAddrWp, fieldAddrWp, fieldWp, indexWp, partWp, elP, atG, tupWp, isPtr, Nat.reduceLT, Nat.reduceMul, Nat.reduceSub, Int.reduceToNat, Int.reduceNeg, Int.reduceLT, Int.reduceLE, Int.reduceEq, Nat.reduceEqDiff, Nat.reduceAdd, Nat.reduceLeDiff, List.map_cons, List.map_nil, List.toList_toArray, List.getElem?_cons_zero, List.getElem?_cons_succ, List.take_zero, List.all_nil, List.length_cons, List.length_nil, List.drop_zero, List.drop_succ_cons, if_true, if_false, reduceIte, reduceCtorEq, List.nil_append, List.cons_append, ne_eq, buildWp, buildSliceWp, fillV, fillE, allD, toD, makeSliceWp, appendWp, elsV, objOk, refsV, refsV.go, sliceWp, obnd, intV, convWp, minmaxWp, List.replicate, List.mapM_cons, List.mapM_nil, Option.pure_def, Option.bind_eq_bind, Option.bind_some, putCells, List.set_cons_zero, List.set_cons_succ, List.take_succ_cons, List.contains_nil, List.contains_cons, Nat.reduceBEq, List.flatMap_cons, List.flatMap_nil, List.all_cons, List.append_nil, List.length_map, List.getElem?_map, Option.map_some, tys0, tys1, tys2, tys3, tys4, tys5, tys6, i64, reEl, Re.cells_eq re, iD, bD, o2, om, cellO]
    refine loop_rule (fun n e s => ∃ i : Nat, n = re.kids.length - i ∧ i ≤ re.kids.length ∧ e 0 = reEl re ∧ e 1 = .rf 0 0 0 0 ∧ (∀ x ∈ re.kids.take i, x.anul = false) ∧ e 52 = i64 re.kids.length ∧ e 53 = i64 i ∧ s = [cellO 58])
      ⟨_, _, _, Cln.refl, 0, rfl, by omega, by simp [reEl, Re.cells_eq re, iD, bD, o2]; rfl, rfl, by simp, rfl, rfl, rfl⟩ ?_
    rintro n e s ⟨i, rfl, hi, h0, h1, hall, h22, h23, rfl⟩
    rcases Nat.lt_or_ge i re.kids.length with hlt | hge
    · obtain ⟨k, hk⟩ : ∃ k, re.kids[i]? = some k := ⟨_, List.getElem?_eq_getElem hlt⟩
      have hm := List.mem_of_getElem? hk
      have hks := hfk k hm
      simp only [vsA, vsB, eq_self, hole, stepC, callK, footOf, allW, roFree, roIn, roOp, opReads, opAt, vIds, Op.operands, Call.operands, Array.toList_append, nilSlWp, Qend, gslot, dstOk, updO, updE, Nat.reduceShiftRight, Nat.reduceMod, ev, cv, binWp, intWp, unWp, nilWp, resWp, resL, resV, finWp, frzV, frzV.go, frzD, envOf, loadWp, mkVWp, storeWp, boxWp, allocWp, lenWp, indexAddrWp, fieldAddrWp, fieldWp, indexWp, partWp, elP, atG, tupWp, isPtr, Nat.reduceLT, Nat.reduceMul, Nat.reduceSub, Int.reduceToNat, Int.reduceNeg, Int.reduceLT, Int.reduceLE, Int.reduceEq, Nat.reduceEqDiff, Nat.reduceAdd, Nat.reduceLeDiff, List.map_cons, List.map_nil, List.toList_toArray, List.getElem?_cons_zero, List.getElem?_cons_succ, List.take_zero, List.all_nil, List.length_cons, List.length_nil, List.drop_zero, List.drop_succ_cons, if_true, if_false, reduceIte, reduceCtorEq, List.nil_append, List.cons_append, ne_eq, buildWp, buildSliceWp, fillV, fillE, allD, toD, makeSliceWp, appendWp, elsV, objOk, refsV, refsV.go, sliceWp, obnd, intV, convWp, minmaxWp, List.replicate, List.mapM_cons, List.mapM_nil, Option.pure_def, Option.bind_eq_bind, Option.bind_some, putCells, List.set_cons_zero, List.set_cons_succ, List.take_succ_cons, List.contains_nil, List.contains_cons, Nat.reduceBEq, List.flatMap_cons, List.flatMap_nil, List.all_cons, List.append_nil, List.length_map, List.getElem?_map, Option.map_some, tys0, tys1, tys2, tys3, tys4, tys5, tys6, h0, h1, h22, h23, i64, hlt, cellO]
      refine draw_c mix [] [(0, [0], []), (7, [0], [0])] (by rfl) ?_
      simp only [vsA, vsB, eq_self, hole, stepC, callK, footOf, allW, roFree, roIn, roOp, opReads, opAt, vIds, Op.operands, Call.operands, Array.toList_append, nilSlWp, Qend, gslot, dstOk, updO, updE, Nat.reduceShiftRight, Nat.reduceMod, ev, cv, binWp, intWp, unWp, nilWp, resWp, resL, resV, finWp, frzV, frzV.go, frzD, envOf, loadWp, mkVWp, storeWp, boxWp, allocWp, lenWp, indexAddrWp, fieldAddrWp, fieldWp, indexWp, partWp, elP, atG, tupWp, isPtr, Nat.reduceLT, Nat.reduceMul, Nat.reduceSub, Int.reduceToNat, Int.reduceNeg, Int.reduceLT, Int.reduceLE, Int.reduceEq, Nat.reduceEqDiff, Nat.reduceAdd, Nat.reduceLeDiff, List.map_cons, List.map_nil, List.toList_toArray, List.getElem?_cons_zero, List.getElem?_cons_succ, List.take_zero, List.all_nil, List.length_cons, List.length_nil, List.drop_zero, List.drop_succ_cons, if_true, if_false, reduceIte, reduceCtorEq, List.nil_append, List.cons_append, ne_eq, buildWp, buildSliceWp, fillV, fillE, allD, toD, makeSliceWp, appendWp, elsV, objOk, refsV, refsV.go, sliceWp, obnd, intV, convWp, minmaxWp, List.replicate, List.mapM_cons, List.mapM_nil, Option.pure_def, Option.bind_eq_bind, Option.bind_some, putCells, List.set_cons_zero, List.set_cons_succ, List.take_succ_cons, List.contains_nil, List.contains_cons, Nat.reduceBEq, List.flatMap_cons, List.flatMap_nil, List.all_cons, List.append_nil, List.length_map, List.getElem?_map, Option.map_some, tys0, tys1, tys2, tys3, tys4, tys5, tys6, h0, h1, h22, h23, i64, hlt, hk, reEl, Re.cells_eq re, iD, bD]
      refine callF_one (ih k hm hks) rfl rfl rfl rfl rfl rfl ?_
      cases hkn : k.anul with
      | false =>
        simp only [vsA, vsB, eq_self, hole, stepC, callK, footOf, allW, roFree, roIn, roOp, opReads, opAt, vIds, Op.operands, Call.operands, Array.toList_append, nilSlWp, Qend, gslot, dstOk, updO, updE, Nat.reduceShiftRight, Nat.reduceMod, ev, cv, binWp, intWp, unWp, nilWp, resWp, resL, resV, finWp, frzV, frzV.go, frzD, envOf, loadWp, mkVWp, storeWp, boxWp, allocWp, lenWp, indexAddrWp, fieldAddrWp, fieldWp, indexWp, partWp, elP, atG, tupWp, isPtr, Nat.reduceLT, Nat.reduceMul, Nat.reduceSub, Int.reduceToNat, Int.reduceNeg, Int.reduceLT, Int.reduceLE, Int.reduceEq, Nat.reduceEqDiff, Nat.reduceAdd, Nat.reduceLeDiff, List.map_cons, List.map_nil, List.toList_toArray, List.getElem?_cons_zero, List.getElem?_cons_succ, List.take_zero, List.all_nil, List.length_cons, List.length_nil, List.drop_zero, List.drop_succ_cons, if_true, if_false, reduceIte, reduceCtorEq, List.nil_append, List.cons_append, ne_eq, buildWp, buildSliceWp, fillV, fillE, allD, toD, makeSliceWp, appendWp, elsV, objOk, refsV, refsV.go, sliceWp, obnd, intV, convWp, minmaxWp, List.replicate, List.mapM_cons, List.mapM_nil, Option.pure_def, Option.bind_eq_bind, Option.bind_some, putCells, List.set_cons_zero, List.set_cons_succ, List.take_succ_cons, List.contains_nil, List.contains_cons, Nat.reduceBEq, List.flatMap_cons, List.flatMap_nil, List.all_cons, List.append_nil, List.length_map, List.getElem?_map, Option.map_some, tys0, tys1, tys2, tys3, tys4, tys5, tys6, h0, h1, h22, h23, i64, cellO, bV, hkn]
        refine ⟨re.kids.length - (i + 1), _, _, by omega, Cln.refl, i + 1, rfl, hlt, ?_, ?_, ?_, ?_, ?_, rfl⟩ <;> (try simp only [keepE_app, List.contains_cons, List.contains_nil, Nat.reduceBEq, Bool.or_false, Bool.false_or, Bool.or_true, Bool.true_or, updE, trimE_upd, trimE_trim, trimE_app, Nat.reduceShiftRight, Nat.reduceMod, Nat.reduceEqDiff, if_true, if_false, reduceIte])
        · simpa [reEl, Re.cells_eq re, iD, bD, o2] using h0
        · exact h1
        · intro x hx
          rw [take_get hk] at hx
          rcases List.mem_append.1 hx with hx | hx
          · exact hall x hx
          · rw [List.mem_singleton.1 hx]; exact hkn
        · exact h22
        · rw [w64 _ (by omega)]; rfl
      | true =>
        simp only [vsA, vsB, eq_self, hole, stepC, callK, footOf, allW, roFree, roIn, roOp, opReads, opAt, vIds, Op.operands, Call.operands, Array.toList_append, nilSlWp, Qend, gslot, dstOk, updO, updE, Nat.reduceShiftRight, Nat.reduceMod, ev, cv, binWp, intWp, unWp, nilWp, resWp, resL, resV, finWp, frzV, frzV.go, frzD, envOf, loadWp, mkVWp, storeWp, boxWp, allocWp, lenWp, indexAddrWp, fieldAddrWp, fieldWp, indexWp, partWp, elP, atG, tupWp, isPtr, Nat.reduceLT, Nat.reduceMul, Nat.reduceSub, Int.reduceToNat, Int.reduceNeg, Int.reduceLT, Int.reduceLE, Int.reduceEq, Nat.reduceEqDiff, Nat.reduceAdd, Nat.reduceLeDiff, List.map_cons, List.map_nil, List.toList_toArray, List.getElem?_cons_zero, List.getElem?_cons_succ, List.take_zero, List.all_nil, List.length_cons, List.length_nil, List.drop_zero, List.drop_succ_cons, if_true, if_false, reduceIte, reduceCtorEq, List.nil_append, List.cons_append, ne_eq, buildWp, buildSliceWp, fillV, fillE, allD, toD, makeSliceWp, appendWp, elsV, objOk, refsV, refsV.go, sliceWp, obnd, intV, convWp, minmaxWp, List.replicate, List.mapM_cons, List.mapM_nil, Option.pure_def, Option.bind_eq_bind, Option.bind_some, putCells, List.set_cons_zero, List.set_cons_succ, List.take_succ_cons, List.contains_nil, List.contains_cons, Nat.reduceBEq, List.flatMap_cons, List.flatMap_nil, List.all_cons, List.append_nil, List.length_map, List.getElem?_map, Option.map_some, tys0, tys1, tys2, tys3, tys4, tys5, tys6, h0, h1, h22, h23, i64, cellO, bV, hkn]
        have : (re.kids.map Re.anul).any id = true := by rw [List.any_eq_true]; exact ⟨true, List.mem_map.2 ⟨k, hm, hkn⟩, by simp⟩
        rw [this]
        all_goals first | exact ⟨rfl, rfl⟩ | exact ⟨rfl, trivial⟩ | rfl | trivial | (rw [reV_eq]; rfl)
    · have hie : i = re.kids.length := by omega
      subst hie
      rw [List.take_length] at hall
      have : (re.kids.map Re.anul).any id = false := by rw [List.any_eq_false]; intro x hx; obtain ⟨y, hy, rfl⟩ := List.mem_map.1 hx; simp [hall y hy]
      rw [this]
      simp only [vsA, vsB, eq_self, hole, stepC, callK, footOf, allW, roFree, roIn, roOp, opReads, opAt, vIds, Op.operands, Call.operands, Array.toList_append, nilSlWp, Qend, gslot, dstOk, updO, updE, Nat.reduceShiftRight, Nat.reduceMod, ev, cv, binWp, intWp, unWp, nilWp, resWp, resL, resV, finWp, frzV, frzV.go, frzD, envOf, loadWp, mkVWp, storeWp, boxWp, allocWp, lenWp, indexAddrWp, fieldAddrWp, fieldWp, indexWp, partWp, elP, atG, tupWp, isPtr, Nat.reduceLT, Nat.reduceMul, Nat.reduceSub, Int.reduceToNat, Int.reduceNeg, Int.reduceLT, Int.reduceLE, Int.reduceEq, Nat.reduceEqDiff, Nat.reduceAdd, Nat.reduceLeDiff, List.map_cons, List.map_nil, List.toList_toArray, List.getElem?_cons_zero, List.getElem?_cons_succ, List.take_zero, List.all_nil, List.length_cons, List.length_nil, List.drop_zero, List.drop_succ_cons, if_true, if_false, reduceIte, reduceCtorEq, List.nil_append, List.cons_append, ne_eq, buildWp, buildSliceWp, fillV, fillE, allD, toD, makeSliceWp, appendWp, elsV, objOk, refsV, refsV.go, sliceWp, obnd, intV, convWp, minmaxWp, List.replicate, List.mapM_cons, List.mapM_nil, Option.pure_def, Option.bind_eq_bind, Option.bind_some, putCells, List.set_cons_zero, List.set_cons_succ, List.take_succ_cons, List.contains_nil, List.contains_cons, Nat.reduceBEq, List.flatMap_cons, List.flatMap_nil, List.all_cons, List.append_nil, List.length_map, List.getElem?_map, Option.map_some, tys0, tys1, tys2, tys3, tys4, tys5, tys6, h0, h1, h22, h23, i64, cellO, Nat.lt_irrefl, bV]
      all_goals first | exact ⟨rfl, rfl⟩ | exact ⟨rfl, trivial⟩ | rfl | trivial | (rw [reV_eq]; rfl)

set_option maxRecDepth 100000 in
set_option maxHeartbeats 8000000 in
theorem nul_leaf (re : Re) (o1 : ¬ re.op = 2) (o2 : ¬ re.op = 3) (o3 : ¬ re.op = 10) (o4 : re.op = 4 → re.mn = 0) (o5 : ¬ re.op = 5) (o6 : ¬ re.op = 9) : NulOK re := by
  unfold NulOK
  by_cases p4 : re.op = 4
  · have hle : re.anul = true := by rw [Re.anul_eq, p4, o4 p4]; rfl
    rw [hle]
    have pm := o4 p4
    refine fn_ok Try.func58 rfl Try.ntmps58 Try.results58 rfl 1 13519594987718203 (by simp) (by simp) ?_
    simp only [vsA, vsB, eq_self, hole, stepC, callK, footOf, allW, roFree, roIn, roOp, opReads, opAt, vIds, Op.operands, Call.operands, Array.toList_append, nilSlWp, Qend, gslot, dstOk, updO, updE, Nat.reduceShiftRight, Nat.reduceMod, ev, cv, binWp, intWp, unWp, nilWp, resWp, resL, resV, finWp, frzV, frzV.go, frzD, envOf, loadWp, mkVWp, storeWp, boxWp, allocWp, lenWp, indexAddrWp, fieldAddrWp, fieldWp, indexWp, partWp, elP, atG, tupWp, isPtr, Nat.reduceLT, Nat.reduceMul, Nat.reduceSub, Int.reduceToNat, Int.reduceNeg, Int.reduceLT, Int.reduceLE, Int.reduceEq, Nat.reduceEqDiff, Nat.reduceAdd, Nat.reduceLeDiff, List.map_cons, List.map_nil, List.toList_toArray, List.getElem?_cons_zero, List.getElem?_cons_succ, List.take_zero, List.all_nil, List.length_cons, List.length_nil, List.drop_zero, List.drop_succ_cons, if_true, if_false, reduceIte, reduceCtorEq, List.nil_append, List.cons_append, ne_eq, buildWp, buildSliceWp, fillV, fillE, allD, toD, makeSliceWp, appendWp, elsV, objOk, refsV, refsV.go, sliceWp, obnd, intV, convWp, minmaxWp, List.replicate, List.mapM_cons, List.mapM_nil, Option.pure_def, Option.bind_eq_bind, Option.bind_some, putCells, List.set_cons_zero, List.set_cons_succ, List.take_succ_cons, List.contains_nil, List.contains_cons, Nat.reduceBEq, List.flatMap_cons, List.flatMap_nil, List.all_cons, List.append_nil, List.length_map, List.getElem?_map, Option.map_some, tys0, tys1, tys2, tys3, tys4, tys5, tys6, i64, reEl, Re.cells_eq re, iD, bD, p4, pm, cellO, bV]
    all_goals first | exact ⟨rfl, rfl⟩ | exact ⟨rfl, trivial⟩ | rfl | trivial | (rw [reV_eq]; rfl)
  by_cases p : re.op = 0 ∨ re.op = 6 ∨ re.op = 7 ∨ re.op = 8 ∨ re.op = 11
  · have hle : re.anul = true := by rw [Re.anul_eq]; simp [anulOp, p]
    rw [hle]
    rcases p with p | p | p | p | p
    all_goals
      refine fn_ok Try.func58 rfl Try.ntmps58 Try.results58 rfl 1 13519594987718203 (by simp) (by simp) ?_
      simp only [vsA, vsB, eq_self, hole, stepC, callK, footOf, allW, roFree, roIn, roOp, opReads, opAt, vIds, Op.operands, Call.operands, Array.toList_append, nilSlWp, Qend, gslot, dstOk, updO, updE, Nat.reduceShiftRight, Nat.reduceMod, ev, cv, binWp, intWp, unWp, nilWp, resWp, resL, resV, finWp, frzV, frzV.go, frzD, envOf, loadWp, mkVWp, storeWp, boxWp, allocWp, lenWp, indexAddrWp, fieldAddrWp, fieldWp, indexWp, partWp, elP, atG, tupWp, isPtr, Nat.reduceLT, Nat.reduceMul, Nat.reduceSub, Int.reduceToNat, Int.reduceNeg, Int.reduceLT, Int.reduceLE, Int.reduceEq, Nat.reduceEqDiff, Nat.reduceAdd, Nat.reduceLeDiff, List.map_cons, List.map_nil, List.toList_toArray, List.getElem?_cons_zero, List.getElem?_cons_succ, List.take_zero, List.all_nil, List.length_cons, List.length_nil, List.drop_zero, List.drop_succ_cons, if_true, if_false, reduceIte, reduceCtorEq, List.nil_append, List.cons_append, ne_eq, buildWp, buildSliceWp, fillV, fillE, allD, toD, makeSliceWp, appendWp, elsV, objOk, refsV, refsV.go, sliceWp, obnd, intV, convWp, minmaxWp, List.replicate, List.mapM_cons, List.mapM_nil, Option.pure_def, Option.bind_eq_bind, Option.bind_some, putCells, List.set_cons_zero, List.set_cons_succ, List.take_succ_cons, List.contains_nil, List.contains_cons, Nat.reduceBEq, List.flatMap_cons, List.flatMap_nil, List.all_cons, List.append_nil, List.length_map, List.getElem?_map, Option.map_some, tys0, tys1, tys2, tys3, tys4, tys5, tys6, i64, reEl, Re.cells_eq re, iD, bD, p, cellO, bV]
      all_goals first | exact ⟨rfl, rfl⟩ | exact ⟨rfl, trivial⟩ | rfl | trivial | (rw [reV_eq]; rfl)
  have hle : re.anul = false := by rw [Re.anul_eq]; simp [anulOp, p, o1, o2, o3, p4, o5, o6]
  rw [hle]
  have p0 : ¬ re.op = 0 := fun h => p (.inl h)
  have p6 : ¬ re.op = 6 := fun h => p (.inr (.inl h))
  have p7 : ¬ re.op = 7 := fun h => p (.inr (.inr (.inl h)))
  have p8 : ¬ re.op = 8 := fun h => p (.inr (.inr (.inr (.inl h))))
  have p11 : ¬ re.op = 11 := fun h => p (.inr (.inr (.inr (.inr h))))
  refine fn_ok Try.func58 rfl Try.ntmps58 Try.results58 rfl 1 13519594987718203 (by simp) (by simp) ?_
  simp only [vsA, vsB, eq_self, hole, stepC, callK, footOf, allW, roFree, roIn, roOp, opReads, opAt, vIds, Op.operands, Call.operands, Array.toList_append, nilSlWp, Qend, gslot, dstOk, updO, updE, Nat.reduceShiftRight, Nat.reduceMod, ev, cv, binWp, intWp, unWp, nilWp, resWp, resL, resV, finWp, frzV, frzV.go, frzD, envOf, loadWp, mkVWp, storeWp, boxWp, allocWp, lenWp, indexAddrWp, fieldAddrWp, fieldWp, indexWp, partWp, elP, atG, tupWp, isPtr, Nat.reduceLT, Nat.reduceMul, Nat.reduceSub, Int.reduceToNat, Int.reduceNeg, Int.reduceLT, Int.reduceLE, Int.reduceEq, Nat.reduceEqDiff, Nat.reduceAdd, Nat.reduceLeDiff, List.map_cons, List.map_nil, List.toList_toArray, List.getElem?_cons_zero, List.getElem?_cons_succ, List.take_zero, List.all_nil, List.length_cons, List.length_nil, List.drop_zero, List.drop_succ_cons, if_true, if_false, reduceIte, reduceCtorEq, List.nil_append, List.cons_append, ne_eq, buildWp, buildSliceWp, fillV, fillE, allD, toD, makeSliceWp, appendWp, elsV, objOk, refsV, refsV.go, sliceWp, obnd, intV, convWp, minmaxWp, List.replicate, List.mapM_cons, List.mapM_nil, Option.pure_def, Option.bind_eq_bind, Option.bind_some, putCells, List.set_cons_zero, List.set_cons_succ, List.take_succ_cons, List.contains_nil, List.contains_cons, Nat.reduceBEq, List.flatMap_cons, List.flatMap_nil, List.all_cons, List.append_nil, List.length_map, List.getElem?_map, Option.map_some, tys0, tys1, tys2, tys3, tys4, tys5, tys6, i64, reEl, Re.cells_eq re, iD, bD, o1, o2, o3, p4, o5, o6, p0, p6, p7, p8, p11, cellO, bV]
  all_goals first | exact ⟨rfl, rfl⟩ | exact ⟨rfl, trivial⟩ | rfl | trivial | (rw [reV_eq]; rfl)

theorem nul_rec (re : Re) (hs : re.fine = true) : NulOK re := by
  revert hs
  refine Re.ind (Q := fun re => re.fine = true → NulOK re) (fun re ih hs => ?_) re
  by_cases o2 : re.op = 2
  · exact nul_cat re ih hs o2
  by_cases o : (re.op = 4 ∧ ¬ re.mn = 0) ∨ re.op = 3 ∨ re.op = 10 ∨ re.op = 5 ∨ re.op = 9
  · exact nul_any re ih hs o
  · exact nul_leaf re o2 (fun h => o (.inr (.inl h))) (fun h => o (.inr (.inr (.inl h)))) (fun h => by by_cases hm : re.mn = 0; exact hm; exact absurd (.inl ⟨h, hm⟩) o) (fun h => o (.inr (.inr (.inr (.inl h))))) (fun h => o (.inr (.inr (.inr (.inr h)))))

theorem nullable_ok (re : Re) (hs : re.fine = true) : PureOK Try.prog 15 [reV re] (bV re.anul) := by
  refine fn_ok Try.func15 rfl Try.ntmps15 Try.results15 rfl 0 15 (by simp) (by simp) ?_
  simp only [vsA, vsB, eq_self, hole, stepC, callK, footOf, allW, roFree, roIn, roOp, opReads, opAt, vIds, Op.operands, Call.operands, Array.toList_append, nilSlWp, Qend, gslot, dstOk, updO, updE, Nat.reduceShiftRight, Nat.reduceMod, ev, cv, binWp, intWp, unWp, nilWp, resWp, resL, resV, finWp, frzV, frzV.go, frzD, envOf, loadWp, mkVWp, storeWp, boxWp, allocWp, lenWp, indexAddrWp, fieldAddrWp, fieldWp, indexWp, partWp, elP, atG, tupWp, isPtr, Nat.reduceLT, Nat.reduceMul, Nat.reduceSub, Int.reduceToNat, Int.reduceNeg, Int.reduceLT, Int.reduceLE, Int.reduceEq, Nat.reduceEqDiff, Nat.reduceAdd, Nat.reduceLeDiff, List.map_cons, List.map_nil, List.toList_toArray, List.getElem?_cons_zero, List.getElem?_cons_succ, List.take_zero, List.all_nil, List.length_cons, List.length_nil, List.drop_zero, List.drop_succ_cons, if_true, if_false, reduceIte, reduceCtorEq, List.nil_append, List.cons_append, ne_eq, buildWp, buildSliceWp, fillV, fillE, allD, toD, makeSliceWp, appendWp, elsV, objOk, refsV, refsV.go, sliceWp, obnd, intV, convWp, minmaxWp, List.replicate, List.mapM_cons, List.mapM_nil, Option.pure_def, Option.bind_eq_bind, Option.bind_some, putCells, List.set_cons_zero, List.set_cons_succ, List.take_succ_cons, List.contains_nil, List.contains_cons, Nat.reduceBEq, List.flatMap_cons, List.flatMap_nil, List.all_cons, List.append_nil, List.length_map, List.getElem?_map, Option.map_some, tys0, tys1, tys2, tys3, tys4, tys5, tys6, i64, reV_eq re, iD, bD]
  refine call_give [0] rfl ?_
  refine call_at (r' := bV re.anul) 1 (nul_rec re hs) (by rw [reEl, Re.cells_eq]; rfl) rfl rfl rfl rfl ?_
  simp only [vsA, vsB, eq_self, hole, stepC, callK, footOf, allW, roFree, roIn, roOp, opReads, opAt, vIds, Op.operands, Call.operands, Array.toList_append, nilSlWp, Qend, gslot, dstOk, updO, updE, Nat.reduceShiftRight, Nat.reduceMod, ev, cv, binWp, intWp, unWp, nilWp, resWp, resL, resV, finWp, frzV, frzV.go, frzD, envOf, loadWp, mkVWp, storeWp, boxWp, allocWp, lenWp, indexAddrWp, fieldAddrWp, fieldWp, indexWp, partWp, elP, atG, tupWp, isPtr, Nat.reduceLT, Nat.reduceMul, Nat.reduceSub, Int.reduceToNat, Int.reduceNeg, Int.reduceLT, Int.reduceLE, Int.reduceEq, Nat.reduceEqDiff, Nat.reduceAdd, Nat.reduceLeDiff, List.map_cons, List.map_nil, List.toList_toArray, List.getElem?_cons_zero, List.getElem?_cons_succ, List.take_zero, List.all_nil, List.length_cons, List.length_nil, List.drop_zero, List.drop_succ_cons, if_true, if_false, reduceIte, reduceCtorEq, List.nil_append, List.cons_append, ne_eq, buildWp, buildSliceWp, fillV, fillE, allD, toD, makeSliceWp, appendWp, elsV, objOk, refsV, refsV.go, sliceWp, obnd, intV, convWp, minmaxWp, List.replicate, List.mapM_cons, List.mapM_nil, Option.pure_def, Option.bind_eq_bind, Option.bind_some, putCells, List.set_cons_zero, List.set_cons_succ, List.take_succ_cons, List.contains_nil, List.contains_cons, Nat.reduceBEq, List.flatMap_cons, List.flatMap_nil, List.all_cons, List.append_nil, List.length_map, List.getElem?_map, Option.map_some, tys0, tys1, tys2, tys3, tys4, tys5, tys6, i64, killO, kill1, renO, renV, renV.go, cellO, bV]
  all_goals first | exact ⟨rfl, rfl⟩ | exact ⟨rfl, trivial⟩ | rfl | trivial | (rw [reV_eq]; rfl)

end Go.Proofs.Ytafbdphblilenaa
