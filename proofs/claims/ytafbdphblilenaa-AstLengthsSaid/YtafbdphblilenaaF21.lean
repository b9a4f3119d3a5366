import Derived.Test.YtafbdphblilenaaF20
set_option linter.unusedSimpArgs false
set_option linter.unusedVariables false
namespace Go.Proofs.Ytafbdphblilenaa
open Go.VL

mutual
def Re.every (p : Re → Bool) : Re → Bool
  | .mk op set kids mn mx mode n neg => p (.mk op set kids mn mx mode n neg) && Re.everyL p kids
def Re.everyL (p : Re → Bool) : List Re → Bool
  | [] => true
  | k :: l => Re.every p k && Re.everyL p l
end

theorem Re.everyL_all (p : Re → Bool) : ∀ l : List Re, Re.everyL p l = l.all (Re.every p)
  | [] => rfl
  | k :: l => by simp [Re.everyL, Re.everyL_all p l]

theorem Re.every_iff {p : Re → Bool} (re : Re) : re.every p = true ↔ p re = true ∧ ∀ k ∈ re.kids, k.every p = true := by
  cases re with
  | mk op set kids mn mx mode n neg => simp only [Re.every, Bool.and_eq_true, Re.everyL_all, List.all_eq_true, Re.kids]

/-- What unrolling asks of each node. -/
def exq (re : Re) : Bool := decide (re.set.length ≤ 1000000000 ∧ re.kids.length ≤ 1000000000 ∧ (re.op = 4 → 0 ≤ re.mn ∧ re.mn ≤ 1000000 ∧ -1 ≤ re.mx ∧ re.mx ≤ 1000000))

theorem fine_of_exq (re : Re) (h : re.every exq = true) : re.fine = true := by
  revert h
  refine Re.ind (Q := fun re => re.every exq = true → re.fine = true) (fun re ih h => ?_) re
  obtain ⟨h1, h2⟩ := (Re.every_iff re).1 h
  have h1 := of_decide_eq_true h1
  exact (Re.fine_iff re).2 ⟨h1.1, h1.2.1, fun k hk => ih k hk (h2 k hk)⟩

theorem rept_fine {x : Re} (h : x.fine = true) (most mode : Int) : (rept x most mode).fine = true := by
  rw [Re.fine_iff]
  refine ⟨by simp [rept, Re.set], by simp [rept, Re.kids], fun k hk => ?_⟩
  have : k = x := by simpa [rept, Re.kids] using hk
  rw [this]; exact h

theorem join_fine {l : List Re} (h : ∀ x ∈ l, x.fine = true) (hl : l.length ≤ 1000000000) : (joinR l).fine = true := by
  unfold joinR
  split
  · exact h _ (by simp)
  · rw [Re.fine_iff]
    exact ⟨by simp [Re.set], hl, h⟩

theorem rest_fine {x : Re} (h : x.fine = true) (mode : Int) : ∀ j, (restR mode x j).fine = true
  | 0 => rept_fine h _ _
  | j + 1 => rept_fine (join_fine (fun y hy => by
      rcases List.mem_cons.1 hy with rfl | hy
      · exact h
      · rw [List.mem_singleton.1 hy]; exact rest_fine h mode j) (by simp)) _ _

theorem unroll_fine {re x : Re} (h : x.fine = true) (h0 : 0 ≤ re.mn) (h1 : re.mn ≤ 1000000) : (unrollR re x).fine = true := by
  unfold unrollR
  have hn : re.mn.toNat ≤ 1000000 := by omega
  refine join_fine (fun y hy => ?_) ?_
  · rcases List.mem_append.1 hy with hy | hy
    · rw [(List.mem_replicate.1 hy).2]; exact h
    · split at hy
      · rw [List.mem_singleton.1 hy]; exact rept_fine h _ _
      · split at hy
        · rw [List.mem_singleton.1 hy]; exact rest_fine h _ _
        · cases hy
  · rw [List.length_append, List.length_replicate]
    split
    · simp; omega
    · split <;> simp <;> omega

theorem exa_spec {re : Re} (h : re.exa = true) : (re.op = 4 → re.kids.length = 1) ∧ ∀ k ∈ re.kids, k.exa = true := by
  rw [Re.exa_eq, Bool.and_eq_true, List.all_eq_true] at h
  refine ⟨fun o => ?_, h.2⟩
  have h1 := h.1
  simp only [exaNode, o] at h1
  by_cases hl : re.kids.length = 1
  · exact hl
  · simp [hl] at h1

theorem exp_both (re : Re) (h : re.every exq = true) (ha : re.exa = true) : re.exp.fine = true ∧ ExpOK re := by
  revert h ha
  refine Re.ind (Q := fun re => re.every exq = true → re.exa = true → re.exp.fine = true ∧ ExpOK re) (fun re ih h ha => ?_) re
  have hf := fine_of_exq re h
  obtain ⟨h1, h2⟩ := (Re.every_iff re).1 h
  have h1 := of_decide_eq_true h1
  obtain ⟨a1, a2⟩ := exa_spec ha
  have hx : ∀ k ∈ re.kids, k.exp.fine = true := fun k hk => (ih k hk (h2 k hk) (a2 k hk)).1
  have hn : exNode re := fun o _ => ⟨fun he => (by have := a1 o; rw [he] at this; cases this), h1.2.2 o⟩
  refine ⟨?_, exp_step re hf (fun k hk => (ih k hk (h2 k hk) (a2 k hk)).2) hx hn⟩
  by_cases hk : re.op = 4 ∧ re.kept = false
  · obtain ⟨hne, n0, n1, _, _⟩ := hn hk.1 hk.2
    obtain ⟨k, l, hkl⟩ := List.exists_cons_of_ne_nil hne
    rw [Re.exp_un hk.1 hk.2 hkl]
    exact unroll_fine (hx k (by rw [hkl]; simp)) n0 n1
  · rw [Re.exp_keep (by
      by_cases o : re.op = 4
      · right; cases hkk : re.kept with
        | true => rfl
        | false => exact absurd ⟨o, hkk⟩ hk
      · exact .inl o), Re.fine_iff]
    refine ⟨h1.1, by simpa [Re.out, Re.kids] using h1.2.1, fun y hy => ?_⟩
    obtain ⟨k, hk, rfl⟩ := List.mem_map.1 (show y ∈ re.kids.map Re.exp from hy)
    exact hx k hk

def zeroR : Re := .mk 0 [] [] 0 0 0 0 false

def expandR (re : Re) : Re × Int := if re.exa = false then (zeroR, 10) else if 4096 < re.esz then (zeroR, 4) else (re.exp, 0)

set_option maxRecDepth 100000 in
set_option maxHeartbeats 8000000 in
theorem expand_ok (re : Re) (h : re.every exq = true) : PureOK Try.prog 16 [reV re] (.tu [reV (expandR re).1, i64 (expandR re).2]) := by
  have hf := fine_of_exq re h
  have hea := expandable_ok re hf
  have hes := expandedSize_ok re hf
  rw [reEl, Re.cells_eq re] at hea hes
  simp only [iD, bD, bV, i64] at hea hes
  refine fn_ok Try.func16 rfl Try.ntmps16 Try.results16 rfl 0 31 (by simp) (by simp) ?_
  simp only [vsA, vsB, eq_self, hole, stepC, callK, footOf, allW, roFree, roIn, roOp, opReads, opAt, vIds, Op.operands, Call.operands, Array.toList_append, nilSlWp, Qend, gslot, dstOk, updO, updE, Nat.reduceShiftRight, Nat.reduceMod, ev, cv, binWp, intWp, unWp, nilWp, resWp, resL, resV, finWp, frzV, frzV.go, frzD, envOf, loadWp, mkVWp, storeWp, boxWp, allocWp, lenWp, indexAddrWp, fieldAddrWp, fieldWp, indexWp, partWp, elP, atG, tupWp, isPtr, Nat.reduceLT, Nat.reduceMul, Nat.reduceSub, Int.reduceToNat, Int.reduceNeg, Int.reduceLT, Int.reduceLE, Int.reduceEq, Nat.reduceEqDiff, Nat.reduceAdd, Nat.reduceLeDiff, List.map_cons, List.map_nil, List.toList_toArray, List.getElem?_cons_zero, List.getElem?_cons_succ, List.take_zero, List.all_nil, List.length_cons, List.length_nil, List.drop_zero, List.drop_succ_cons, if_true, if_false, reduceIte, reduceCtorEq, List.nil_append, List.cons_append, ne_eq, buildWp, buildSliceWp, fillV, fillE, allD, toD, makeSliceWp, appendWp, elsV, objOk, refsV, refsV.go, sliceWp, obnd, intV, convWp, minmaxWp, List.replicate, List.mapM_cons, List.mapM_nil, Option.pure_def, Option.bind_eq_bind, Option.bind_some, putCells, List.set_cons_zero, List.set_cons_succ, List.take_succ_cons, List.contains_nil, List.contains_cons, Nat.reduceBEq, List.flatMap_cons, List.flatMap_nil, List.all_cons, List.append_nil, List.length_map, List.getElem?_map, Option.map_some, tys0, tys1, tys2, tys3, tys4, tys5, tys6, i64, reV_eq re, iD, bD]
  refine call_give [0] rfl ?_
  refine call_pure hea rfl rfl ?_
  cases hx : re.exa with
  | false =>
    simp only [vsA, vsB, eq_self, hole, stepC, callK, footOf, allW, roFree, roIn, roOp, opReads, opAt, vIds, Op.operands, Call.operands, Array.toList_append, nilSlWp, Qend, gslot, dstOk, updO, updE, Nat.reduceShiftRight, Nat.reduceMod, ev, cv, binWp, intWp, unWp, nilWp, resWp, resL, resV, finWp, frzV, frzV.go, frzD, envOf, loadWp, mkVWp, storeWp, boxWp, allocWp, lenWp, indexAddrWp, fieldAddrWp, fieldWp, indexWp, partWp, elP, atG, tupWp, isPtr, Nat.reduceLT, Nat.reduceMul, Nat.reduceSub, Int.reduceToNat, Int.reduceNeg, Int.reduceLT, Int.reduceLE, Int.reduceEq, Nat.reduceEqDiff, Nat.reduceAdd, Nat.reduceLeDiff, List.map_cons, List.map_nil, List.toList_toArray, List.getElem?_cons_zero, List.getElem?_cons_succ, List.take_zero, List.all_nil, List.length_cons, List.length_nil, List.drop_zero, List.drop_succ_cons, if_true, if_false, reduceIte, reduceCtorEq, List.nil_append, List.cons_append, ne_eq, buildWp, buildSliceWp, fillV, fillE, allD, toD, makeSliceWp, appendWp, elsV, objOk, refsV, refsV.go, sliceWp, obnd, intV, convWp, minmaxWp, List.replicate, List.mapM_cons, List.mapM_nil, Option.pure_def, Option.bind_eq_bind, Option.bind_some, putCells, List.set_cons_zero, List.set_cons_succ, List.take_succ_cons, List.contains_nil, List.contains_cons, Nat.reduceBEq, List.flatMap_cons, List.flatMap_nil, List.all_cons, List.append_nil, List.length_map, List.getElem?_map, Option.map_some, tys0, tys1, tys2, tys3, tys4, tys5, tys6, hx, killO, kill1, i64]
    rw [expandR, if_pos hx, zeroR, reV_eq]
    rfl
  | true =>
    have hx' : ¬ re.exa = false := by rw [hx]; decide
    obtain ⟨_, hok⟩ := exp_both re h hx
    unfold ExpOK at hok
    rw [reV_eq re] at hok
    simp only [iD, bD] at hok
    simp only [vsA, vsB, eq_self, hole, stepC, callK, footOf, allW, roFree, roIn, roOp, opReads, opAt, vIds, Op.operands, Call.operands, Array.toList_append, nilSlWp, Qend, gslot, dstOk, updO, updE, Nat.reduceShiftRight, Nat.reduceMod, ev, cv, binWp, intWp, unWp, nilWp, resWp, resL, resV, finWp, frzV, frzV.go, frzD, envOf, loadWp, mkVWp, storeWp, boxWp, allocWp, lenWp, indexAddrWp, fieldAddrWp, fieldWp, indexWp, partWp, elP, atG, tupWp, isPtr, Nat.reduceLT, Nat.reduceMul, Nat.reduceSub, Int.reduceToNat, Int.reduceNeg, Int.reduceLT, Int.reduceLE, Int.reduceEq, Nat.reduceEqDiff, Nat.reduceAdd, Nat.reduceLeDiff, List.map_cons, List.map_nil, List.toList_toArray, List.getElem?_cons_zero, List.getElem?_cons_succ, List.take_zero, List.all_nil, List.length_cons, List.length_nil, List.drop_zero, List.drop_succ_cons, if_true, if_false, reduceIte, reduceCtorEq, List.nil_append, List.cons_append, ne_eq, buildWp, buildSliceWp, fillV, fillE, allD, toD, makeSliceWp, appendWp, elsV, objOk, refsV, refsV.go, sliceWp, obnd, intV, convWp, minmaxWp, List.replicate, List.mapM_cons, List.mapM_nil, Option.pure_def, Option.bind_eq_bind, Option.bind_some, putCells, List.set_cons_zero, List.set_cons_succ, List.take_succ_cons, List.contains_nil, List.contains_cons, Nat.reduceBEq, List.flatMap_cons, List.flatMap_nil, List.all_cons, List.append_nil, List.length_map, List.getElem?_map, Option.map_some, tys0, tys1, tys2, tys3, tys4, tys5, tys6, hx, killO, kill1, i64]
    refine call_give [0] rfl ?_
    refine call_pure hes rfl rfl ?_
    by_cases hz : 4096 < re.esz
    · simp only [vsA, vsB, eq_self, hole, stepC, callK, footOf, allW, roFree, roIn, roOp, opReads, opAt, vIds, Op.operands, Call.operands, Array.toList_append, nilSlWp, Qend, gslot, dstOk, updO, updE, Nat.reduceShiftRight, Nat.reduceMod, ev, cv, binWp, intWp, unWp, nilWp, resWp, resL, resV, finWp, frzV, frzV.go, frzD, envOf, loadWp, mkVWp, storeWp, boxWp, allocWp, lenWp, indexAddrWp, fieldAddrWp, fieldWp, indexWp, partWp, elP, atG, tupWp, isPtr, Nat.reduceLT, Nat.reduceMul, Nat.reduceSub, Int.reduceToNat, Int.reduceNeg, Int.reduceLT, Int.reduceLE, Int.reduceEq, Nat.reduceEqDiff, Nat.reduceAdd, Nat.reduceLeDiff, List.map_cons, List.map_nil, List.toList_toArray, List.getElem?_cons_zero, List.getElem?_cons_succ, List.take_zero, List.all_nil, List.length_cons, List.length_nil, List.drop_zero, List.drop_succ_cons, if_true, if_false, reduceIte, reduceCtorEq, List.nil_append, List.cons_append, ne_eq, buildWp, buildSliceWp, fillV, fillE, allD, toD, makeSliceWp, appendWp, elsV, objOk, refsV, refsV.go, sliceWp, obnd, intV, convWp, minmaxWp, List.replicate, List.mapM_cons, List.mapM_nil, Option.pure_def, Option.bind_eq_bind, Option.bind_some, putCells, List.set_cons_zero, List.set_cons_succ, List.take_succ_cons, List.contains_nil, List.contains_cons, Nat.reduceBEq, List.flatMap_cons, List.flatMap_nil, List.all_cons, List.append_nil, List.length_map, List.getElem?_map, Option.map_some, tys0, tys1, tys2, tys3, tys4, tys5, tys6, hx, killO, kill1, i64, hz]
      rw [expandR, if_neg hx', if_pos hz, zeroR, reV_eq]
      rfl
    · simp only [vsA, vsB, eq_self, hole, stepC, callK, footOf, allW, roFree, roIn, roOp, opReads, opAt, vIds, Op.operands, Call.operands, Array.toList_append, nilSlWp, Qend, gslot, dstOk, updO, updE, Nat.reduceShiftRight, Nat.reduceMod, ev, cv, binWp, intWp, unWp, nilWp, resWp, resL, resV, finWp, frzV, frzV.go, frzD, envOf, loadWp, mkVWp, storeWp, boxWp, allocWp, lenWp, indexAddrWp, fieldAddrWp, fieldWp, indexWp, partWp, elP, atG, tupWp, isPtr, Nat.reduceLT, Nat.reduceMul, Nat.reduceSub, Int.reduceToNat, Int.reduceNeg, Int.reduceLT, Int.reduceLE, Int.reduceEq, Nat.reduceEqDiff, Nat.reduceAdd, Nat.reduceLeDiff, List.map_cons, List.map_nil, List.toList_toArray, List.getElem?_cons_zero, List.getElem?_cons_succ, List.take_zero, List.all_nil, List.length_cons, List.length_nil, List.drop_zero, List.drop_succ_cons, if_true, if_false, reduceIte, reduceCtorEq, List.nil_append, List.cons_append, ne_eq, buildWp, buildSliceWp, fillV, fillE, allD, toD, makeSliceWp, appendWp, elsV, objOk, refsV, refsV.go, sliceWp, obnd, intV, convWp, minmaxWp, List.replicate, List.mapM_cons, List.mapM_nil, Option.pure_def, Option.bind_eq_bind, Option.bind_some, putCells, List.set_cons_zero, List.set_cons_succ, List.take_succ_cons, List.contains_nil, List.contains_cons, Nat.reduceBEq, List.flatMap_cons, List.flatMap_nil, List.all_cons, List.append_nil, List.length_map, List.getElem?_map, Option.map_some, tys0, tys1, tys2, tys3, tys4, tys5, tys6, hx, killO, kill1, i64, hz]
      rw [expandR, if_neg hx', if_neg hz]
      refine call_at (r' := reV re.exp) 2 hok rfl rfl rfl rfl (renV_reV _ _) ?_
      simp only [vsA, vsB, eq_self, hole, stepC, callK, footOf, allW, roFree, roIn, roOp, opReads, opAt, vIds, Op.operands, Call.operands, Array.toList_append, nilSlWp, Qend, gslot, dstOk, updO, updE, Nat.reduceShiftRight, Nat.reduceMod, ev, cv, binWp, intWp, unWp, nilWp, resWp, resL, resV, finWp, frzV, frzV.go, frzD, envOf, loadWp, mkVWp, storeWp, boxWp, allocWp, lenWp, indexAddrWp, fieldAddrWp, fieldWp, indexWp, partWp, elP, atG, tupWp, isPtr, Nat.reduceLT, Nat.reduceMul, Nat.reduceSub, Int.reduceToNat, Int.reduceNeg, Int.reduceLT, Int.reduceLE, Int.reduceEq, Nat.reduceEqDiff, Nat.reduceAdd, Nat.reduceLeDiff, List.map_cons, List.map_nil, List.toList_toArray, List.getElem?_cons_zero, List.getElem?_cons_succ, List.take_zero, List.all_nil, List.length_cons, List.length_nil, List.drop_zero, List.drop_succ_cons, if_true, if_false, reduceIte, reduceCtorEq, List.nil_append, List.cons_append, ne_eq, buildWp, buildSliceWp, fillV, fillE, allD, toD, makeSliceWp, appendWp, elsV, objOk, refsV, refsV.go, sliceWp, obnd, intV, convWp, minmaxWp, List.replicate, List.mapM_cons, List.mapM_nil, Option.pure_def, Option.bind_eq_bind, Option.bind_some, putCells, List.set_cons_zero, List.set_cons_succ, List.take_succ_cons, List.contains_nil, List.contains_cons, Nat.reduceBEq, List.flatMap_cons, List.flatMap_nil, List.all_cons, List.append_nil, List.length_map, List.getElem?_map, Option.map_some, tys0, tys1, tys2, tys3, tys4, tys5, tys6, killO, kill1, renO, renV, renV.go, cellO, i64]
      simp only [vsA, vsB, eq_self, hole, stepC, callK, footOf, allW, roFree, roIn, roOp, opReads, opAt, vIds, Op.operands, Call.operands, Array.toList_append, nilSlWp, Qend, gslot, dstOk, updO, updE, Nat.reduceShiftRight, Nat.reduceMod, ev, cv, binWp, intWp, unWp, nilWp, resWp, resL, resV, finWp, frzV, frzV.go, frzD, envOf, loadWp, mkVWp, storeWp, boxWp, allocWp, lenWp, indexAddrWp, fieldAddrWp, fieldWp, indexWp, partWp, elP, atG, tupWp, isPtr, Nat.reduceLT, Nat.reduceMul, Nat.reduceSub, Int.reduceToNat, Int.reduceNeg, Int.reduceLT, Int.reduceLE, Int.reduceEq, Nat.reduceEqDiff, Nat.reduceAdd, Nat.reduceLeDiff, List.map_cons, List.map_nil, List.toList_toArray, List.getElem?_cons_zero, List.getElem?_cons_succ, List.take_zero, List.all_nil, List.length_cons, List.length_nil, List.drop_zero, List.drop_succ_cons, if_true, if_false, reduceIte, reduceCtorEq, List.nil_append, List.cons_append, ne_eq, buildWp, buildSliceWp, fillV, fillE, allD, toD, makeSliceWp, appendWp, elsV, objOk, refsV, refsV.go, sliceWp, obnd, intV, convWp, minmaxWp, List.replicate, List.mapM_cons, List.mapM_nil, Option.pure_def, Option.bind_eq_bind, Option.bind_some, putCells, List.set_cons_zero, List.set_cons_succ, List.take_succ_cons, List.contains_nil, List.contains_cons, Nat.reduceBEq, List.flatMap_cons, List.flatMap_nil, List.all_cons, List.append_nil, List.length_map, List.getElem?_map, Option.map_some, tys0, tys1, tys2, tys3, tys4, tys5, tys6, reV_eq re.exp, iD, bD]
      all_goals first | exact ⟨rfl, rfl⟩ | exact ⟨rfl, trivial⟩ | rfl | trivial | (rw [reV_eq]; rfl)

end Go.Proofs.Ytafbdphblilenaa
