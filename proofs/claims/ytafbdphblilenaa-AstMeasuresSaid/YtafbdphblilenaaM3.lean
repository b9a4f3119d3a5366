/- Part 3 of the proof: the program logic, and what the functions compute (F18 to F34). -/
import Derived.Test.YtafbdphblilenaaM2
set_option linter.unusedSimpArgs false
set_option linter.unusedVariables false
set_option linter.unusedSimpArgs false
set_option linter.unusedVariables false
namespace Go.Proofs.Ytafbdphblilenaa
open Go.VL

def rept (x : Re) (most mode : Int) : Re := .mk 4 [] [x] 0 most mode 0 false

def restR (mode : Int) (x : Re) : Nat → Re
  | 0 => rept x 1 mode
  | j + 1 => rept (joinR [x, restR mode x j]) 1 mode

def unrollR (re x : Re) : Re :=
  joinR (List.replicate re.mn.toNat x ++ (if re.mx = -1 then [rept x (-1) re.mode] else if re.mn < re.mx then [restR re.mode x (re.mx - re.mn - 1).toNat] else []))

def boxO (x : Re) : VL.Obj := ⟨0, true, 8, [x.cells.map .d]⟩
def arrO (g : Nat) (l : List Re) : VL.Obj := ⟨g, true, 8, (l.map Re.cells).map fun c => c.map V.d⟩

/-- The state after the first loop. -/
def UnI (re x : Re) (e : Env) (s : List VL.Obj) (i : Nat) : Prop :=
  e 0 = reEl re ∧ e 3 = .rf 0 0 0 0 ∧ e 4 = .rf 1 0 0 0 ∧ ((i = 0 ∧ e 5 = .fu [] ∧ s = [boxO x, zeroO]) ∨ ∃ g, e 5 = .so 2 g 0 i ∧ s = [boxO x, zeroO, arrO g (List.replicate i x)])

theorem frz_arr (n lim : Nat) (s : List VL.Obj) (l : List Re) (k : Nat) (hk : l.length ≤ k) : (((l.map Re.cells).map fun c => c.map V.d).take k).mapM (fun (e : List V) => e.mapM (frzD n lim s)) = some (l.map Re.cells) := frz_data n lim s _ k (by simpa using hk)

theorem frz_so {s : List VL.Obj} {id g n : Nat} {l : List Re} (h : s[id]? = some (arrO g l)) (hn : n = l.length) : frzV.go (killO s [id]).length (killO s [id]) [.so id g 0 n] = some [.d (.sl (l.map Re.cells))] := by
  subst hn
  have hlt := (List.getElem?_eq_some_iff.1 h).1
  have hk : (killO s [id])[id]? = some { arrO g l with live := false } := by
    simp only [killO, kill1, h]
    rw [List.getElem?_set_self hlt]
  simp only [frzV.go, frzV, frzD, hk, arrO, List.drop_zero, Nat.zero_add, List.length_map, Nat.le_refl, true_and, or_true, if_true]
  rw [frz_arr _ _ _ _ _ (Nat.le_refl _)]
  simp

theorem call_join {s : List VL.Obj} {id g n : Nat} {l : List Re} {K : V → List VL.Obj → Prop} (h : s[id]? = some (arrO g l)) (hn : n = l.length) (hk : K (reV (joinR l)) (killO s [id])) : callWp Try.prog 106 [.so id g 0 n] s K :=
  call_give [id] (frz_so h hn) (call_pure (join_ok l) rfl (by simp [refsV, refsV.go, reV_eq, i64, bV, reEl]) hk)

set_option maxRecDepth 100000 in
set_option maxHeartbeats 8000000 in
theorem unroll_ok (re x : Re) (hx : x.fine = true) (h0 : 0 ≤ re.mn) (h1 : re.mn ≤ 1000000) (h2 : -1 ≤ re.mx) (h3 : re.mx ≤ 1000000) : PureOK Try.prog 64 [reEl re, reV x] (reV (unrollR re x)) := by
  have hmn : (re.mn.toNat : Int) = re.mn := Int.toNat_of_nonneg h0
  refine fn_ok Try.func64 rfl Try.ntmps64 Try.results64 rfl 0 1729382256910273659 (by simp) (by simp) ?_
  simp only [vsA, vsB, vsC, appendWp, Nat.reduceShiftRight, Nat.reduceMod, Nat.reduceLT, Nat.reduceMul, Nat.reduceSub, Int.reduceToNat, Int.reduceNeg, Int.reduceLT, Int.reduceLE, Int.reduceEq, Nat.reduceEqDiff, Nat.reduceAdd, Nat.reduceLeDiff, reduceIte, reduceCtorEq, Nat.reduceBEq, tysA, i64, reEl, Re.cells_eq re, iD, bD]
  refine loop_rule (fun n e s => ∃ i : Nat, n = re.mn.toNat - i ∧ i ≤ re.mn.toNat ∧ e 10 = i64 re.mn ∧ e 11 = i64 i ∧ UnI re x e s i)
    ⟨_, _, _, Cln.refl, 0, rfl, by omega, rfl, rfl, by rw [reEl, Re.cells_eq re]; rfl, rfl, rfl, .inl ⟨rfl, rfl, rfl⟩⟩ ?_
  rintro n e s ⟨i, rfl, hi, h10, h11, e0, e3, e4, hacc⟩
  rcases Nat.lt_or_ge i re.mn.toNat with hlt | hge
  · have hlt' : (i : Int) < re.mn := by omega
    have wi : IntKind.i64.wrap ((i : Int) + 1) = (i + 1 : Nat) := by rw [w64 _ (by omega)]; omega
    rcases hacc with ⟨rfl, e5, rfl⟩ | ⟨g, e5, rfl⟩
    · simp only [vsA, vsB, vsC, appendWp, Nat.reduceShiftRight, Nat.reduceMod, Nat.reduceLT, Nat.reduceMul, Nat.reduceSub, Int.reduceToNat, Int.reduceNeg, Int.reduceLT, Int.reduceLE, Int.reduceEq, Nat.reduceEqDiff, Nat.reduceAdd, Nat.reduceLeDiff, reduceIte, reduceCtorEq, Nat.reduceBEq, tysA, e0, e3, e4, e5, h10, h11, i64, hlt', boxO, zeroO]
      refine call_pure (clone_ok x hx) (by simp [refsV, refsV.go, reV_eq, i64, bV, reEl]) (by simp [refsV, refsV.go, reV_eq, i64, bV, reEl]) ?_
      simp only [vsA, vsB, vsC, appendWp, Nat.reduceShiftRight, Nat.reduceMod, Nat.reduceLT, Nat.reduceMul, Nat.reduceSub, Int.reduceToNat, Int.reduceNeg, Int.reduceLT, Int.reduceLE, Int.reduceEq, Nat.reduceEqDiff, Nat.reduceAdd, Nat.reduceLeDiff, reduceIte, reduceCtorEq, Nat.reduceBEq, tysA, e0, e3, e4, e5, h10, h11, i64, boxO, zeroO, wi]
      refine ⟨fun y hy => by rw [List.mem_singleton.1 hy]; simp [Re.cells_len], by simp, re.mn.toNat - 1, _, _, by omega, Cln.refl, 1, rfl, by omega, ?_, ?_, ?_, ?_, ?_, .inr ⟨0, ?_, rfl⟩⟩ <;> simp only [keepE_app, List.contains_cons, List.contains_nil, Nat.reduceBEq, Bool.or_false, Bool.false_or, Bool.or_true, Bool.true_or, updE, trimE_upd, trimE_trim, trimE_app, Nat.reduceShiftRight, Nat.reduceMod, Nat.reduceEqDiff, if_true, if_false, reduceIte]
      · exact h10
      · exact e0
      · exact e3
      · exact e4
    · simp only [vsA, vsB, vsC, appendWp, Nat.reduceShiftRight, Nat.reduceMod, Nat.reduceLT, Nat.reduceMul, Nat.reduceSub, Int.reduceToNat, Int.reduceNeg, Int.reduceLT, Int.reduceLE, Int.reduceEq, Nat.reduceEqDiff, Nat.reduceAdd, Nat.reduceLeDiff, reduceIte, reduceCtorEq, Nat.reduceBEq, tysA, e0, e3, e4, e5, h10, h11, i64, hlt', boxO, zeroO, arrO]
      refine call_pure (clone_ok x hx) (by simp [refsV, refsV.go, reV_eq, i64, bV, reEl]) (by simp [refsV, refsV.go, reV_eq, i64, bV, reEl]) ?_
      simp only [vsA, vsB, vsC, appendWp, Nat.reduceShiftRight, Nat.reduceMod, Nat.reduceLT, Nat.reduceMul, Nat.reduceSub, Int.reduceToNat, Int.reduceNeg, Int.reduceLT, Int.reduceLE, Int.reduceEq, Nat.reduceEqDiff, Nat.reduceAdd, Nat.reduceLeDiff, reduceIte, reduceCtorEq, Nat.reduceBEq, tysA, e0, e3, e4, e5, h10, h11, i64, boxO, zeroO, arrO, wi]
      refine ⟨fun y hy => by rw [List.mem_singleton.1 hy]; simp [Re.cells_len], ⟨by simp, by omega⟩, re.mn.toNat - (i + 1), _, _, by omega, Cln.refl, i + 1, rfl, by omega, ?_, ?_, ?_, ?_, ?_, .inr ⟨g + 1, ?_, ?_⟩⟩ <;> (try simp only [keepE_app, List.contains_cons, List.contains_nil, Nat.reduceBEq, Bool.or_false, Bool.false_or, Bool.or_true, Bool.true_or, updE, trimE_upd, trimE_trim, trimE_app, Nat.reduceShiftRight, Nat.reduceMod, Nat.reduceEqDiff, if_true, if_false, reduceIte])
      · exact h10
      · exact e0
      · exact e3
      · exact e4
      · rw [List.take_of_length_le (by simp)]
        simp [boxO, zeroO, bV, i64, arrO, List.replicate_succ']
  have hie : i = re.mn.toNat := by omega
  subst hie
  have hlt' : ¬ (re.mn.toNat : Int) < re.mn := by omega
  rcases hacc with ⟨hz, e5, rfl⟩ | ⟨g, e5, rfl⟩
  · by_cases hm1 : re.mx = -1
    · rw [show unrollR re x = joinR [rept x (-1) re.mode] by simp [unrollR, hz, hm1]]
      simp only [vsA, vsB, vsC, appendWp, Nat.reduceShiftRight, Nat.reduceMod, Nat.reduceLT, Nat.reduceMul, Nat.reduceSub, Int.reduceToNat, Int.reduceNeg, Int.reduceLT, Int.reduceLE, Int.reduceEq, Nat.reduceEqDiff, Nat.reduceAdd, Nat.reduceLeDiff, reduceIte, reduceCtorEq, Nat.reduceBEq, tysA, e0, e3, e4, e5, h10, h11, i64, boxO, zeroO, arrO, reEl, Re.cells_eq re, iD, bD, hlt', hm1]
      refine draw_c mix [9] [] (by rfl) ?_
      simp only [vsA, vsB, vsC, appendWp, Nat.reduceShiftRight, Nat.reduceMod, Nat.reduceLT, Nat.reduceMul, Nat.reduceSub, Int.reduceToNat, Int.reduceNeg, Int.reduceLT, Int.reduceLE, Int.reduceEq, Nat.reduceEqDiff, Nat.reduceAdd, Nat.reduceLeDiff, reduceIte, reduceCtorEq, Nat.reduceBEq, tysA, e0, e3, e4, e5, h10, h11, i64, boxO, zeroO, arrO, reEl, Re.cells_eq re, iD, bD, hm1]
      refine callC_pure (clone_ok x hx) (by simp [refsV, refsV.go, reV_eq, i64, bV, reEl]) (by simp [refsV, refsV.go, reV_eq, i64, bV, reEl]) ?_
      simp only [vsA, vsB, vsC, appendWp, Nat.reduceShiftRight, Nat.reduceMod, Nat.reduceLT, Nat.reduceMul, Nat.reduceSub, Int.reduceToNat, Int.reduceNeg, Int.reduceLT, Int.reduceLE, Int.reduceEq, Nat.reduceEqDiff, Nat.reduceAdd, Nat.reduceLeDiff, reduceIte, reduceCtorEq, Nat.reduceBEq, tysA, e0, e3, e4, e5, h10, h11, i64, boxO, zeroO, arrO, reEl, Re.cells_eq re, iD, bD, hm1]
      refine callC_pure (repeat_ok x (-1) re.mode) (by simp [refsV, refsV.go, reV_eq, i64, bV, reEl]) (by simp [refsV, refsV.go, reV_eq, i64, bV, reEl]) ?_
      simp only [vsA, vsB, vsC, appendWp, Nat.reduceShiftRight, Nat.reduceMod, Nat.reduceLT, Nat.reduceMul, Nat.reduceSub, Int.reduceToNat, Int.reduceNeg, Int.reduceLT, Int.reduceLE, Int.reduceEq, Nat.reduceEqDiff, Nat.reduceAdd, Nat.reduceLeDiff, reduceIte, reduceCtorEq, Nat.reduceBEq, tysA, e0, e3, e4, e5, h10, h11, i64, boxO, zeroO, arrO, reEl, Re.cells_eq re, iD, bD, hm1]
      refine ⟨fun y hy => by rw [List.mem_singleton.1 hy]; simp [Re.cells_len], by simp, ?_⟩
      refine call_join (id := 2) (g := 0) (l := [rept x (-1) re.mode]) (by simp [arrO, rept]) (by simp) ?_
      simp only [vsA, vsB, vsC, appendWp, Nat.reduceShiftRight, Nat.reduceMod, Nat.reduceLT, Nat.reduceMul, Nat.reduceSub, Int.reduceToNat, Int.reduceNeg, Int.reduceLT, Int.reduceLE, Int.reduceEq, Nat.reduceEqDiff, Nat.reduceAdd, Nat.reduceLeDiff, reduceIte, reduceCtorEq, Nat.reduceBEq, tysA, e0, e3, e4, e5, h10, h11, i64, boxO, zeroO, arrO, reEl, Re.cells_eq re, iD, bD, killO, kill1]
      all_goals first | exact ⟨rfl, rfl⟩ | exact ⟨rfl, trivial⟩ | rfl | trivial | (rw [reV_eq]; rfl)
    by_cases hm2 : re.mn < re.mx
    · rw [show unrollR re x = joinR [restR re.mode x (re.mx - re.mn - 1).toNat] by simp [unrollR, hz, hm1, hm2]]
      have w1 : IntKind.i64.wrap (re.mx - re.mn) = re.mx - re.mn := w64 _ (by omega)
      have w2 : IntKind.i64.wrap (re.mx - re.mn - 1) = re.mx - re.mn - 1 := w64 _ (by omega)
      have hd : ((re.mx - re.mn - 1).toNat : Int) = re.mx - re.mn - 1 := Int.toNat_of_nonneg (by omega)
      simp only [vsA, vsB, vsC, appendWp, Nat.reduceShiftRight, Nat.reduceMod, Nat.reduceLT, Nat.reduceMul, Nat.reduceSub, Int.reduceToNat, Int.reduceNeg, Int.reduceLT, Int.reduceLE, Int.reduceEq, Nat.reduceEqDiff, Nat.reduceAdd, Nat.reduceLeDiff, reduceIte, reduceCtorEq, Nat.reduceBEq, tysA, e0, e3, e4, e5, h10, h11, i64, boxO, zeroO, arrO, reEl, Re.cells_eq re, iD, bD, hlt', hm1]
      refine draw_c mix [] [] (by rfl) ?_
      simp only [vsA, vsB, vsC, appendWp, Nat.reduceShiftRight, Nat.reduceMod, Nat.reduceLT, Nat.reduceMul, Nat.reduceSub, Int.reduceToNat, Int.reduceNeg, Int.reduceLT, Int.reduceLE, Int.reduceEq, Nat.reduceEqDiff, Nat.reduceAdd, Nat.reduceLeDiff, reduceIte, reduceCtorEq, Nat.reduceBEq, tysA, e0, e3, e4, e5, h10, h11, i64, boxO, zeroO, arrO, reEl, Re.cells_eq re, iD, bD, hm1, hm2]
      refine draw_first Cln0.reserve ?_
      refine draw_c mix [8] [(7, [2], [2])] (by rfl) ?_
      simp only [vsA, vsB, vsC, appendWp, Nat.reduceShiftRight, Nat.reduceMod, Nat.reduceLT, Nat.reduceMul, Nat.reduceSub, Int.reduceToNat, Int.reduceNeg, Int.reduceLT, Int.reduceLE, Int.reduceEq, Nat.reduceEqDiff, Nat.reduceAdd, Nat.reduceLeDiff, reduceIte, reduceCtorEq, Nat.reduceBEq, tysA, e0, e3, e4, e5, h10, h11, i64, boxO, zeroO, arrO, reEl, Re.cells_eq re, iD, bD, hm1, hm2]
      refine callC_pure (clone_ok x hx) (by simp [refsV, refsV.go, reV_eq, i64, bV, reEl]) (by simp [refsV, refsV.go, reV_eq, i64, bV, reEl]) ?_
      simp only [vsA, vsB, vsC, appendWp, Nat.reduceShiftRight, Nat.reduceMod, Nat.reduceLT, Nat.reduceMul, Nat.reduceSub, Int.reduceToNat, Int.reduceNeg, Int.reduceLT, Int.reduceLE, Int.reduceEq, Nat.reduceEqDiff, Nat.reduceAdd, Nat.reduceLeDiff, reduceIte, reduceCtorEq, Nat.reduceBEq, tysA, e0, e3, e4, e5, h10, h11, i64, boxO, zeroO, arrO, reEl, Re.cells_eq re, iD, bD, hm1]
      refine callC_pure (repeat_ok x 1 re.mode) (by simp [refsV, refsV.go, reV_eq, i64, bV, reEl]) (by simp [refsV, refsV.go, reV_eq, i64, bV, reEl]) ?_
      simp only [vsA, vsB, vsC, appendWp, Nat.reduceShiftRight, Nat.reduceMod, Nat.reduceLT, Nat.reduceMul, Nat.reduceSub, Int.reduceToNat, Int.reduceNeg, Int.reduceLT, Int.reduceLE, Int.reduceEq, Nat.reduceEqDiff, Nat.reduceAdd, Nat.reduceLeDiff, reduceIte, reduceCtorEq, Nat.reduceBEq, tysA, e0, e3, e4, e5, h10, h11, i64, boxO, zeroO, arrO, reEl, Re.cells_eq re, iD, bD, hm1]
      refine draw_c mix [] [] (by rfl) ?_
      simp only [vsA, vsB, vsC, appendWp, Nat.reduceShiftRight, Nat.reduceMod, Nat.reduceLT, Nat.reduceMul, Nat.reduceSub, Int.reduceToNat, Int.reduceNeg, Int.reduceLT, Int.reduceLE, Int.reduceEq, Nat.reduceEqDiff, Nat.reduceAdd, Nat.reduceLeDiff, reduceIte, reduceCtorEq, Nat.reduceBEq, tysA, e0, e3, e4, e5, h10, h11, i64, boxO, zeroO, arrO, reEl, Re.cells_eq re, iD, bD, hm1, hm2, w1, w2]
      refine loop_rule (fun n e s => ∃ j : Nat, n = (re.mx - re.mn - 1).toNat - j ∧ j ≤ (re.mx - re.mn - 1).toNat ∧ e 59 = i64 (re.mx - re.mn - 1) ∧ e 60 = i64 j ∧ e 0 = reEl re ∧ e 3 = .rf 0 0 0 0 ∧ e 4 = .rf 1 0 0 0 ∧ e 5 = .fu [] ∧ e 6 = .rf 2 1 0 0 ∧ s = [boxO x, zeroO, ⟨1, true, 8, [(restR re.mode x j).cells.map .d]⟩])
        ⟨_, _, _, Cln.refl, 0, rfl, by omega, rfl, rfl, ?_, ?_, ?_, ?_, rfl, rfl⟩ ?_
      · simp only [keepE_app, List.contains_cons, List.contains_nil, Nat.reduceBEq, Bool.or_false, Bool.false_or, Bool.or_true, Bool.true_or, updE, trimE_upd, trimE_trim, trimE_app, Nat.reduceShiftRight, Nat.reduceMod, Nat.reduceEqDiff, if_true, if_false, reduceIte]; simpa [reEl, Re.cells_eq re, iD, bD] using e0
      · simp only [keepE_app, List.contains_cons, List.contains_nil, Nat.reduceBEq, Bool.or_false, Bool.false_or, Bool.or_true, Bool.true_or, updE, trimE_upd, trimE_trim, trimE_app, Nat.reduceShiftRight, Nat.reduceMod, Nat.reduceEqDiff, if_true, if_false, reduceIte]; exact e3
      · simp only [keepE_app, List.contains_cons, List.contains_nil, Nat.reduceBEq, Bool.or_false, Bool.false_or, Bool.or_true, Bool.true_or, updE, trimE_upd, trimE_trim, trimE_app, Nat.reduceShiftRight, Nat.reduceMod, Nat.reduceEqDiff, if_true, if_false, reduceIte]; exact e4
      · simp only [keepE_app, List.contains_cons, List.contains_nil, Nat.reduceBEq, Bool.or_false, Bool.false_or, Bool.or_true, Bool.true_or, updE, trimE_upd, trimE_trim, trimE_app, Nat.reduceShiftRight, Nat.reduceMod, Nat.reduceEqDiff, if_true, if_false, reduceIte]; exact e5
      rintro n e s ⟨j, rfl, hj, h59, h60, e0, e3, e4, e5, e6, rfl⟩
      rcases Nat.lt_or_ge j (re.mx - re.mn - 1).toNat with hlt | hge
      · have hlt' : (j : Int) < re.mx - re.mn - 1 := by omega
        have wj : IntKind.i64.wrap ((j : Int) + 1) = (j + 1 : Nat) := by rw [w64 _ (by omega)]; omega
        simp only [vsA, vsB, vsC, appendWp, Nat.reduceShiftRight, Nat.reduceMod, Nat.reduceLT, Nat.reduceMul, Nat.reduceSub, Int.reduceToNat, Int.reduceNeg, Int.reduceLT, Int.reduceLE, Int.reduceEq, Nat.reduceEqDiff, Nat.reduceAdd, Nat.reduceLeDiff, reduceIte, reduceCtorEq, Nat.reduceBEq, tysA, e0, e3, e4, e5, h10, h11, i64, boxO, zeroO, arrO, reEl, Re.cells_eq re, iD, bD, e6, h59, h60, hlt']
        refine draw_c mix [10] [] (by rfl) ?_
        simp only [vsA, vsB, vsC, appendWp, Nat.reduceShiftRight, Nat.reduceMod, Nat.reduceLT, Nat.reduceMul, Nat.reduceSub, Int.reduceToNat, Int.reduceNeg, Int.reduceLT, Int.reduceLE, Int.reduceEq, Nat.reduceEqDiff, Nat.reduceAdd, Nat.reduceLeDiff, reduceIte, reduceCtorEq, Nat.reduceBEq, tysA, e0, e3, e4, e5, h10, h11, i64, boxO, zeroO, arrO, reEl, Re.cells_eq re, iD, bD, e6, h59, h60]
        refine callC_pure (clone_ok x hx) (by simp [refsV, refsV.go, reV_eq, i64, bV, reEl]) (by simp [refsV, refsV.go, reV_eq, i64, bV, reEl]) ?_
        simp only [vsA, vsB, vsC, appendWp, Nat.reduceShiftRight, Nat.reduceMod, Nat.reduceLT, Nat.reduceMul, Nat.reduceSub, Int.reduceToNat, Int.reduceNeg, Int.reduceLT, Int.reduceLE, Int.reduceEq, Nat.reduceEqDiff, Nat.reduceAdd, Nat.reduceLeDiff, reduceIte, reduceCtorEq, Nat.reduceBEq, tysA, e0, e3, e4, e5, h10, h11, i64, boxO, zeroO, arrO, reEl, Re.cells_eq re, iD, bD, e6, h59, h60]
        refine callC_give (join_ok [x, restR re.mode x j]) (fun s' => rfl) rfl (by simp [refsV, refsV.go, reV_eq, i64, bV, reEl]) ?_
        simp only [vsA, vsB, vsC, appendWp, Nat.reduceShiftRight, Nat.reduceMod, Nat.reduceLT, Nat.reduceMul, Nat.reduceSub, Int.reduceToNat, Int.reduceNeg, Int.reduceLT, Int.reduceLE, Int.reduceEq, Nat.reduceEqDiff, Nat.reduceAdd, Nat.reduceLeDiff, reduceIte, reduceCtorEq, Nat.reduceBEq, tysA, e0, e3, e4, e5, h10, h11, i64, boxO, zeroO, arrO, reEl, Re.cells_eq re, iD, bD, e6, h59, h60]
        refine callC_pure (repeat_ok (joinR [x, restR re.mode x j]) 1 re.mode) (by simp [refsV, refsV.go, reV_eq, i64, bV, reEl]) (by simp [refsV, refsV.go, reV_eq, i64, bV, reEl]) ?_
        simp only [vsA, vsB, vsC, appendWp, Nat.reduceShiftRight, Nat.reduceMod, Nat.reduceLT, Nat.reduceMul, Nat.reduceSub, Int.reduceToNat, Int.reduceNeg, Int.reduceLT, Int.reduceLE, Int.reduceEq, Nat.reduceEqDiff, Nat.reduceAdd, Nat.reduceLeDiff, reduceIte, reduceCtorEq, Nat.reduceBEq, tysA, e0, e3, e4, e5, h10, h11, i64, boxO, zeroO, arrO, reEl, Re.cells_eq re, iD, bD, e6, h59, h60, wj]
        refine ⟨(re.mx - re.mn - 1).toNat - (j + 1), _, _, by omega, Cln.refl, j + 1, rfl, by omega, ?_, ?_, ?_, ?_, ?_, ?_, ?_, rfl⟩ <;> (try simp only [keepE_app, List.contains_cons, List.contains_nil, Nat.reduceBEq, Bool.or_false, Bool.false_or, Bool.or_true, Bool.true_or, updE, trimE_upd, trimE_trim, trimE_app, Nat.reduceShiftRight, Nat.reduceMod, Nat.reduceEqDiff, if_true, if_false, reduceIte])
        · exact h59
        · simpa [reEl, Re.cells_eq re, iD, bD] using e0
        · exact e3
        · exact e4
        · exact e5
        · exact e6
      · have hje : j = (re.mx - re.mn - 1).toNat := by omega
        subst hje
        have hlt' : ¬ ((re.mx - re.mn - 1).toNat : Int) < re.mx - re.mn - 1 := by omega
        simp only [vsA, vsB, vsC, appendWp, Nat.reduceShiftRight, Nat.reduceMod, Nat.reduceLT, Nat.reduceMul, Nat.reduceSub, Int.reduceToNat, Int.reduceNeg, Int.reduceLT, Int.reduceLE, Int.reduceEq, Nat.reduceEqDiff, Nat.reduceAdd, Nat.reduceLeDiff, reduceIte, reduceCtorEq, Nat.reduceBEq, tysA, e0, e3, e4, e5, h10, h11, i64, boxO, zeroO, arrO, reEl, Re.cells_eq re, iD, bD, e6, h59, h60, hlt']
        refine ⟨fun y hy => by rw [List.mem_singleton.1 hy]; simp [Re.cells_len], by simp, ?_⟩
        refine call_join (id := 3) (g := 0) (l := [restR re.mode x (re.mx - re.mn - 1).toNat]) (by simp [arrO]) (by simp) ?_
        simp only [vsA, vsB, vsC, appendWp, Nat.reduceShiftRight, Nat.reduceMod, Nat.reduceLT, Nat.reduceMul, Nat.reduceSub, Int.reduceToNat, Int.reduceNeg, Int.reduceLT, Int.reduceLE, Int.reduceEq, Nat.reduceEqDiff, Nat.reduceAdd, Nat.reduceLeDiff, reduceIte, reduceCtorEq, Nat.reduceBEq, tysA, e0, e3, e4, e5, h10, h11, i64, boxO, zeroO, arrO, reEl, Re.cells_eq re, iD, bD, killO, kill1]
        all_goals first | exact ⟨rfl, rfl⟩ | exact ⟨rfl, trivial⟩ | rfl | trivial | (rw [reV_eq]; rfl)
    · rw [show unrollR re x = joinR [] by simp [unrollR, hz, hm1, hm2]]
      simp only [vsA, vsB, vsC, appendWp, Nat.reduceShiftRight, Nat.reduceMod, Nat.reduceLT, Nat.reduceMul, Nat.reduceSub, Int.reduceToNat, Int.reduceNeg, Int.reduceLT, Int.reduceLE, Int.reduceEq, Nat.reduceEqDiff, Nat.reduceAdd, Nat.reduceLeDiff, reduceIte, reduceCtorEq, Nat.reduceBEq, tysA, e0, e3, e4, e5, h10, h11, i64, boxO, zeroO, arrO, reEl, Re.cells_eq re, iD, bD, hlt', hm1]
      refine draw_c mix [] [] (by rfl) ?_
      simp only [vsA, vsB, vsC, appendWp, Nat.reduceShiftRight, Nat.reduceMod, Nat.reduceLT, Nat.reduceMul, Nat.reduceSub, Int.reduceToNat, Int.reduceNeg, Int.reduceLT, Int.reduceLE, Int.reduceEq, Nat.reduceEqDiff, Nat.reduceAdd, Nat.reduceLeDiff, reduceIte, reduceCtorEq, Nat.reduceBEq, tysA, e0, e3, e4, e5, h10, h11, i64, boxO, zeroO, arrO, reEl, Re.cells_eq re, iD, bD, hm1, hm2]
      refine call_give [] rfl (call_pure (join_ok []) rfl (by simp [refsV, refsV.go, reV_eq, i64, bV, reEl]) ?_)
      simp only [vsA, vsB, vsC, appendWp, Nat.reduceShiftRight, Nat.reduceMod, Nat.reduceLT, Nat.reduceMul, Nat.reduceSub, Int.reduceToNat, Int.reduceNeg, Int.reduceLT, Int.reduceLE, Int.reduceEq, Nat.reduceEqDiff, Nat.reduceAdd, Nat.reduceLeDiff, reduceIte, reduceCtorEq, Nat.reduceBEq, tysA, e0, e3, e4, e5, h10, h11, i64, boxO, zeroO, arrO, reEl, Re.cells_eq re, iD, bD, killO, kill1]
      all_goals first | exact ⟨rfl, rfl⟩ | exact ⟨rfl, trivial⟩ | rfl | trivial | (rw [reV_eq]; rfl)

  · by_cases hm1 : re.mx = -1
    · rw [show unrollR re x = joinR (List.replicate re.mn.toNat x ++ [rept x (-1) re.mode]) by simp [unrollR, hm1]]
      simp only [vsA, vsB, vsC, appendWp, Nat.reduceShiftRight, Nat.reduceMod, Nat.reduceLT, Nat.reduceMul, Nat.reduceSub, Int.reduceToNat, Int.reduceNeg, Int.reduceLT, Int.reduceLE, Int.reduceEq, Nat.reduceEqDiff, Nat.reduceAdd, Nat.reduceLeDiff, reduceIte, reduceCtorEq, Nat.reduceBEq, tysA, e0, e3, e4, e5, h10, h11, i64, boxO, zeroO, arrO, reEl, Re.cells_eq re, iD, bD, hlt', hm1]
      refine draw_c mix [9] [] (by rfl) ?_
      simp only [vsA, vsB, vsC, appendWp, Nat.reduceShiftRight, Nat.reduceMod, Nat.reduceLT, Nat.reduceMul, Nat.reduceSub, Int.reduceToNat, Int.reduceNeg, Int.reduceLT, Int.reduceLE, Int.reduceEq, Nat.reduceEqDiff, Nat.reduceAdd, Nat.reduceLeDiff, reduceIte, reduceCtorEq, Nat.reduceBEq, tysA, e0, e3, e4, e5, h10, h11, i64, boxO, zeroO, arrO, reEl, Re.cells_eq re, iD, bD, hm1]
      refine callC_pure (clone_ok x hx) (by simp [refsV, refsV.go, reV_eq, i64, bV, reEl]) (by simp [refsV, refsV.go, reV_eq, i64, bV, reEl]) ?_
      simp only [vsA, vsB, vsC, appendWp, Nat.reduceShiftRight, Nat.reduceMod, Nat.reduceLT, Nat.reduceMul, Nat.reduceSub, Int.reduceToNat, Int.reduceNeg, Int.reduceLT, Int.reduceLE, Int.reduceEq, Nat.reduceEqDiff, Nat.reduceAdd, Nat.reduceLeDiff, reduceIte, reduceCtorEq, Nat.reduceBEq, tysA, e0, e3, e4, e5, h10, h11, i64, boxO, zeroO, arrO, reEl, Re.cells_eq re, iD, bD, hm1]
      refine callC_pure (repeat_ok x (-1) re.mode) (by simp [refsV, refsV.go, reV_eq, i64, bV, reEl]) (by simp [refsV, refsV.go, reV_eq, i64, bV, reEl]) ?_
      simp only [vsA, vsB, vsC, appendWp, Nat.reduceShiftRight, Nat.reduceMod, Nat.reduceLT, Nat.reduceMul, Nat.reduceSub, Int.reduceToNat, Int.reduceNeg, Int.reduceLT, Int.reduceLE, Int.reduceEq, Nat.reduceEqDiff, Nat.reduceAdd, Nat.reduceLeDiff, reduceIte, reduceCtorEq, Nat.reduceBEq, tysA, e0, e3, e4, e5, h10, h11, i64, boxO, zeroO, arrO, reEl, Re.cells_eq re, iD, bD, hm1]
      refine ⟨fun y hy => by rw [List.mem_singleton.1 hy]; simp [Re.cells_len], ⟨by simp, by omega⟩, ?_⟩
      refine call_join (id := 2) (g := (g + 1)) (l := (List.replicate re.mn.toNat x ++ [rept x (-1) re.mode])) (by simp [arrO, rept]) (by simp) ?_
      simp only [vsA, vsB, vsC, appendWp, Nat.reduceShiftRight, Nat.reduceMod, Nat.reduceLT, Nat.reduceMul, Nat.reduceSub, Int.reduceToNat, Int.reduceNeg, Int.reduceLT, Int.reduceLE, Int.reduceEq, Nat.reduceEqDiff, Nat.reduceAdd, Nat.reduceLeDiff, reduceIte, reduceCtorEq, Nat.reduceBEq, tysA, e0, e3, e4, e5, h10, h11, i64, boxO, zeroO, arrO, reEl, Re.cells_eq re, iD, bD, killO, kill1]
      all_goals first | exact ⟨rfl, rfl⟩ | exact ⟨rfl, trivial⟩ | rfl | trivial | (rw [reV_eq]; rfl)
    by_cases hm2 : re.mn < re.mx
    · rw [show unrollR re x = joinR (List.replicate re.mn.toNat x ++ [restR re.mode x (re.mx - re.mn - 1).toNat]) by simp [unrollR, hm1, hm2]]
      have w1 : IntKind.i64.wrap (re.mx - re.mn) = re.mx - re.mn := w64 _ (by omega)
      have w2 : IntKind.i64.wrap (re.mx - re.mn - 1) = re.mx - re.mn - 1 := w64 _ (by omega)
      have hd : ((re.mx - re.mn - 1).toNat : Int) = re.mx - re.mn - 1 := Int.toNat_of_nonneg (by omega)
      simp only [vsA, vsB, vsC, appendWp, Nat.reduceShiftRight, Nat.reduceMod, Nat.reduceLT, Nat.reduceMul, Nat.reduceSub, Int.reduceToNat, Int.reduceNeg, Int.reduceLT, Int.reduceLE, Int.reduceEq, Nat.reduceEqDiff, Nat.reduceAdd, Nat.reduceLeDiff, reduceIte, reduceCtorEq, Nat.reduceBEq, tysA, e0, e3, e4, e5, h10, h11, i64, boxO, zeroO, arrO, reEl, Re.cells_eq re, iD, bD, hlt', hm1]
      refine draw_c mix [] [] (by rfl) ?_
      simp only [vsA, vsB, vsC, appendWp, Nat.reduceShiftRight, Nat.reduceMod, Nat.reduceLT, Nat.reduceMul, Nat.reduceSub, Int.reduceToNat, Int.reduceNeg, Int.reduceLT, Int.reduceLE, Int.reduceEq, Nat.reduceEqDiff, Nat.reduceAdd, Nat.reduceLeDiff, reduceIte, reduceCtorEq, Nat.reduceBEq, tysA, e0, e3, e4, e5, h10, h11, i64, boxO, zeroO, arrO, reEl, Re.cells_eq re, iD, bD, hm1, hm2]
      refine draw_first Cln0.reserve ?_
      refine draw_c mix [8] [(7, [3], [3])] (by rfl) ?_
      simp only [vsA, vsB, vsC, appendWp, Nat.reduceShiftRight, Nat.reduceMod, Nat.reduceLT, Nat.reduceMul, Nat.reduceSub, Int.reduceToNat, Int.reduceNeg, Int.reduceLT, Int.reduceLE, Int.reduceEq, Nat.reduceEqDiff, Nat.reduceAdd, Nat.reduceLeDiff, reduceIte, reduceCtorEq, Nat.reduceBEq, tysA, e0, e3, e4, e5, h10, h11, i64, boxO, zeroO, arrO, reEl, Re.cells_eq re, iD, bD, hm1, hm2]
      refine callC_pure (clone_ok x hx) (by simp [refsV, refsV.go, reV_eq, i64, bV, reEl]) (by simp [refsV, refsV.go, reV_eq, i64, bV, reEl]) ?_
      simp only [vsA, vsB, vsC, appendWp, Nat.reduceShiftRight, Nat.reduceMod, Nat.reduceLT, Nat.reduceMul, Nat.reduceSub, Int.reduceToNat, Int.reduceNeg, Int.reduceLT, Int.reduceLE, Int.reduceEq, Nat.reduceEqDiff, Nat.reduceAdd, Nat.reduceLeDiff, reduceIte, reduceCtorEq, Nat.reduceBEq, tysA, e0, e3, e4, e5, h10, h11, i64, boxO, zeroO, arrO, reEl, Re.cells_eq re, iD, bD, hm1]
      refine callC_pure (repeat_ok x 1 re.mode) (by simp [refsV, refsV.go, reV_eq, i64, bV, reEl]) (by simp [refsV, refsV.go, reV_eq, i64, bV, reEl]) ?_
      simp only [vsA, vsB, vsC, appendWp, Nat.reduceShiftRight, Nat.reduceMod, Nat.reduceLT, Nat.reduceMul, Nat.reduceSub, Int.reduceToNat, Int.reduceNeg, Int.reduceLT, Int.reduceLE, Int.reduceEq, Nat.reduceEqDiff, Nat.reduceAdd, Nat.reduceLeDiff, reduceIte, reduceCtorEq, Nat.reduceBEq, tysA, e0, e3, e4, e5, h10, h11, i64, boxO, zeroO, arrO, reEl, Re.cells_eq re, iD, bD, hm1]
      refine draw_c mix [] [] (by rfl) ?_
      simp only [vsA, vsB, vsC, appendWp, Nat.reduceShiftRight, Nat.reduceMod, Nat.reduceLT, Nat.reduceMul, Nat.reduceSub, Int.reduceToNat, Int.reduceNeg, Int.reduceLT, Int.reduceLE, Int.reduceEq, Nat.reduceEqDiff, Nat.reduceAdd, Nat.reduceLeDiff, reduceIte, reduceCtorEq, Nat.reduceBEq, tysA, e0, e3, e4, e5, h10, h11, i64, boxO, zeroO, arrO, reEl, Re.cells_eq re, iD, bD, hm1, hm2, w1, w2]
      refine loop_rule (fun n e s => ∃ j : Nat, n = (re.mx - re.mn - 1).toNat - j ∧ j ≤ (re.mx - re.mn - 1).toNat ∧ e 59 = i64 (re.mx - re.mn - 1) ∧ e 60 = i64 j ∧ e 0 = reEl re ∧ e 3 = .rf 0 0 0 0 ∧ e 4 = .rf 1 0 0 0 ∧ e 5 = .so 2 g 0 re.mn.toNat ∧ e 6 = .rf 3 1 0 0 ∧ s = [boxO x, zeroO, arrO g (List.replicate re.mn.toNat x), ⟨1, true, 8, [(restR re.mode x j).cells.map .d]⟩])
        ⟨_, _, _, Cln.refl, 0, rfl, by omega, rfl, rfl, ?_, ?_, ?_, ?_, rfl, rfl⟩ ?_
      · simp only [keepE_app, List.contains_cons, List.contains_nil, Nat.reduceBEq, Bool.or_false, Bool.false_or, Bool.or_true, Bool.true_or, updE, trimE_upd, trimE_trim, trimE_app, Nat.reduceShiftRight, Nat.reduceMod, Nat.reduceEqDiff, if_true, if_false, reduceIte]; simpa [reEl, Re.cells_eq re, iD, bD] using e0
      · simp only [keepE_app, List.contains_cons, List.contains_nil, Nat.reduceBEq, Bool.or_false, Bool.false_or, Bool.or_true, Bool.true_or, updE, trimE_upd, trimE_trim, trimE_app, Nat.reduceShiftRight, Nat.reduceMod, Nat.reduceEqDiff, if_true, if_false, reduceIte]; exact e3
      · simp only [keepE_app, List.contains_cons, List.contains_nil, Nat.reduceBEq, Bool.or_false, Bool.false_or, Bool.or_true, Bool.true_or, updE, trimE_upd, trimE_trim, trimE_app, Nat.reduceShiftRight, Nat.reduceMod, Nat.reduceEqDiff, if_true, if_false, reduceIte]; exact e4
      · simp only [keepE_app, List.contains_cons, List.contains_nil, Nat.reduceBEq, Bool.or_false, Bool.false_or, Bool.or_true, Bool.true_or, updE, trimE_upd, trimE_trim, trimE_app, Nat.reduceShiftRight, Nat.reduceMod, Nat.reduceEqDiff, if_true, if_false, reduceIte]; exact e5
      rintro n e s ⟨j, rfl, hj, h59, h60, e0, e3, e4, e5, e6, rfl⟩
      rcases Nat.lt_or_ge j (re.mx - re.mn - 1).toNat with hlt | hge
      · have hlt' : (j : Int) < re.mx - re.mn - 1 := by omega
        have wj : IntKind.i64.wrap ((j : Int) + 1) = (j + 1 : Nat) := by rw [w64 _ (by omega)]; omega
        simp only [vsA, vsB, vsC, appendWp, Nat.reduceShiftRight, Nat.reduceMod, Nat.reduceLT, Nat.reduceMul, Nat.reduceSub, Int.reduceToNat, Int.reduceNeg, Int.reduceLT, Int.reduceLE, Int.reduceEq, Nat.reduceEqDiff, Nat.reduceAdd, Nat.reduceLeDiff, reduceIte, reduceCtorEq, Nat.reduceBEq, tysA, e0, e3, e4, e5, h10, h11, i64, boxO, zeroO, arrO, reEl, Re.cells_eq re, iD, bD, e6, h59, h60, hlt']
        refine draw_c mix [10] [] (by rfl) ?_
        simp only [vsA, vsB, vsC, appendWp, Nat.reduceShiftRight, Nat.reduceMod, Nat.reduceLT, Nat.reduceMul, Nat.reduceSub, Int.reduceToNat, Int.reduceNeg, Int.reduceLT, Int.reduceLE, Int.reduceEq, Nat.reduceEqDiff, Nat.reduceAdd, Nat.reduceLeDiff, reduceIte, reduceCtorEq, Nat.reduceBEq, tysA, e0, e3, e4, e5, h10, h11, i64, boxO, zeroO, arrO, reEl, Re.cells_eq re, iD, bD, e6, h59, h60]
        refine callC_pure (clone_ok x hx) (by simp [refsV, refsV.go, reV_eq, i64, bV, reEl]) (by simp [refsV, refsV.go, reV_eq, i64, bV, reEl]) ?_
        simp only [vsA, vsB, vsC, appendWp, Nat.reduceShiftRight, Nat.reduceMod, Nat.reduceLT, Nat.reduceMul, Nat.reduceSub, Int.reduceToNat, Int.reduceNeg, Int.reduceLT, Int.reduceLE, Int.reduceEq, Nat.reduceEqDiff, Nat.reduceAdd, Nat.reduceLeDiff, reduceIte, reduceCtorEq, Nat.reduceBEq, tysA, e0, e3, e4, e5, h10, h11, i64, boxO, zeroO, arrO, reEl, Re.cells_eq re, iD, bD, e6, h59, h60]
        refine callC_give (join_ok [x, restR re.mode x j]) (fun s' => rfl) rfl (by simp [refsV, refsV.go, reV_eq, i64, bV, reEl]) ?_
        simp only [vsA, vsB, vsC, appendWp, Nat.reduceShiftRight, Nat.reduceMod, Nat.reduceLT, Nat.reduceMul, Nat.reduceSub, Int.reduceToNat, Int.reduceNeg, Int.reduceLT, Int.reduceLE, Int.reduceEq, Nat.reduceEqDiff, Nat.reduceAdd, Nat.reduceLeDiff, reduceIte, reduceCtorEq, Nat.reduceBEq, tysA, e0, e3, e4, e5, h10, h11, i64, boxO, zeroO, arrO, reEl, Re.cells_eq re, iD, bD, e6, h59, h60]
        refine callC_pure (repeat_ok (joinR [x, restR re.mode x j]) 1 re.mode) (by simp [refsV, refsV.go, reV_eq, i64, bV, reEl]) (by simp [refsV, refsV.go, reV_eq, i64, bV, reEl]) ?_
        simp only [vsA, vsB, vsC, appendWp, Nat.reduceShiftRight, Nat.reduceMod, Nat.reduceLT, Nat.reduceMul, Nat.reduceSub, Int.reduceToNat, Int.reduceNeg, Int.reduceLT, Int.reduceLE, Int.reduceEq, Nat.reduceEqDiff, Nat.reduceAdd, Nat.reduceLeDiff, reduceIte, reduceCtorEq, Nat.reduceBEq, tysA, e0, e3, e4, e5, h10, h11, i64, boxO, zeroO, arrO, reEl, Re.cells_eq re, iD, bD, e6, h59, h60, wj]
        refine ⟨(re.mx - re.mn - 1).toNat - (j + 1), _, _, by omega, Cln.refl, j + 1, rfl, by omega, ?_, ?_, ?_, ?_, ?_, ?_, ?_, rfl⟩ <;> (try simp only [keepE_app, List.contains_cons, List.contains_nil, Nat.reduceBEq, Bool.or_false, Bool.false_or, Bool.or_true, Bool.true_or, updE, trimE_upd, trimE_trim, trimE_app, Nat.reduceShiftRight, Nat.reduceMod, Nat.reduceEqDiff, if_true, if_false, reduceIte])
        · exact h59
        · simpa [reEl, Re.cells_eq re, iD, bD] using e0
        · exact e3
        · exact e4
        · exact e5
        · exact e6
      · have hje : j = (re.mx - re.mn - 1).toNat := by omega
        subst hje
        have hlt' : ¬ ((re.mx - re.mn - 1).toNat : Int) < re.mx - re.mn - 1 := by omega
        simp only [vsA, vsB, vsC, appendWp, Nat.reduceShiftRight, Nat.reduceMod, Nat.reduceLT, Nat.reduceMul, Nat.reduceSub, Int.reduceToNat, Int.reduceNeg, Int.reduceLT, Int.reduceLE, Int.reduceEq, Nat.reduceEqDiff, Nat.reduceAdd, Nat.reduceLeDiff, reduceIte, reduceCtorEq, Nat.reduceBEq, tysA, e0, e3, e4, e5, h10, h11, i64, boxO, zeroO, arrO, reEl, Re.cells_eq re, iD, bD, e6, h59, h60, hlt']
        refine ⟨fun y hy => by rw [List.mem_singleton.1 hy]; simp [Re.cells_len], ⟨by simp, by omega⟩, ?_⟩
        refine call_join (id := 2) (g := (g + 1)) (l := (List.replicate re.mn.toNat x ++ [restR re.mode x (re.mx - re.mn - 1).toNat])) (by simp [arrO]) (by simp) ?_
        simp only [vsA, vsB, vsC, appendWp, Nat.reduceShiftRight, Nat.reduceMod, Nat.reduceLT, Nat.reduceMul, Nat.reduceSub, Int.reduceToNat, Int.reduceNeg, Int.reduceLT, Int.reduceLE, Int.reduceEq, Nat.reduceEqDiff, Nat.reduceAdd, Nat.reduceLeDiff, reduceIte, reduceCtorEq, Nat.reduceBEq, tysA, e0, e3, e4, e5, h10, h11, i64, boxO, zeroO, arrO, reEl, Re.cells_eq re, iD, bD, killO, kill1]
        all_goals first | exact ⟨rfl, rfl⟩ | exact ⟨rfl, trivial⟩ | rfl | trivial | (rw [reV_eq]; rfl)
    · rw [show unrollR re x = joinR (List.replicate re.mn.toNat x) by simp [unrollR, hm1, hm2]]
      simp only [vsA, vsB, vsC, appendWp, Nat.reduceShiftRight, Nat.reduceMod, Nat.reduceLT, Nat.reduceMul, Nat.reduceSub, Int.reduceToNat, Int.reduceNeg, Int.reduceLT, Int.reduceLE, Int.reduceEq, Nat.reduceEqDiff, Nat.reduceAdd, Nat.reduceLeDiff, reduceIte, reduceCtorEq, Nat.reduceBEq, tysA, e0, e3, e4, e5, h10, h11, i64, boxO, zeroO, arrO, reEl, Re.cells_eq re, iD, bD, hlt', hm1]
      refine draw_c mix [] [] (by rfl) ?_
      simp only [vsA, vsB, vsC, appendWp, Nat.reduceShiftRight, Nat.reduceMod, Nat.reduceLT, Nat.reduceMul, Nat.reduceSub, Int.reduceToNat, Int.reduceNeg, Int.reduceLT, Int.reduceLE, Int.reduceEq, Nat.reduceEqDiff, Nat.reduceAdd, Nat.reduceLeDiff, reduceIte, reduceCtorEq, Nat.reduceBEq, tysA, e0, e3, e4, e5, h10, h11, i64, boxO, zeroO, arrO, reEl, Re.cells_eq re, iD, bD, hm1, hm2]
      refine call_join (id := 2) (g := g) (l := (List.replicate re.mn.toNat x)) (by simp [arrO]) (by simp) ?_
      simp only [vsA, vsB, vsC, appendWp, Nat.reduceShiftRight, Nat.reduceMod, Nat.reduceLT, Nat.reduceMul, Nat.reduceSub, Int.reduceToNat, Int.reduceNeg, Int.reduceLT, Int.reduceLE, Int.reduceEq, Nat.reduceEqDiff, Nat.reduceAdd, Nat.reduceLeDiff, reduceIte, reduceCtorEq, Nat.reduceBEq, tysA, e0, e3, e4, e5, h10, h11, i64, boxO, zeroO, arrO, reEl, Re.cells_eq re, iD, bD, killO, kill1]
      all_goals first | exact ⟨rfl, rfl⟩ | exact ⟨rfl, trivial⟩ | rfl | trivial | (rw [reV_eq]; rfl)

end Go.Proofs.Ytafbdphblilenaa

set_option linter.unusedSimpArgs false
set_option linter.unusedVariables false
namespace Go.Proofs.Ytafbdphblilenaa
open Go.VL

/-- Whether a node can be unrolled. -/
def exaNode (op mx mn mode : Int) (kids : List Re) (nul : List Bool) : Bool :=
  !(decide (op = 4) && (!decide (kids.length = 1) || decide (mode = 2) || (!(decide (mn = 0) && (decide (mx = -1) || decide (mx = 1))) && nul.headD false)))

mutual
def Re.exa : Re → Bool
  | .mk op _ kids mn mx mode _ _ => exaNode op mx mn mode kids (Re.anulL kids) && Re.exaL kids
def Re.exaL : List Re → Bool
  | [] => true
  | k :: l => k.exa && Re.exaL l
end

theorem Re.exaL_all : ∀ l : List Re, Re.exaL l = l.all Re.exa
  | [] => rfl
  | k :: l => by simp [Re.exaL, Re.exaL_all l]

theorem Re.exa_eq (re : Re) : re.exa = (exaNode re.op re.mx re.mn re.mode re.kids (re.kids.map Re.anul) && re.kids.all Re.exa) := by
  cases re; simp [Re.exa, Re.exaL_all, Re.anulL_eq, Re.op, Re.mn, Re.mx, Re.mode, Re.kids]

set_option maxRecDepth 100000 in
set_option maxHeartbeats 8000000 in
theorem expandable_ok (re : Re) (hs : re.fine = true) : PureOK Try.prog 59 [reEl re] (bV re.exa) := by
  revert hs
  refine Re.ind (Q := fun re => re.fine = true → PureOK Try.prog 59 [reEl re] (bV re.exa)) (fun re ih hs => ?_) re
  obtain ⟨hset1, hlen, hfk⟩ := Re.fine_spec hs
  have hkc := kept_ok re
  rw [reEl, Re.cells_eq re] at hkc
  simp only [iD, bD, bV] at hkc
  refine fn_ok Try.func59 rfl Try.ntmps59 Try.results59 rfl 0 3298534883341 (by simp) (by simp) ?_
  by_cases o4 : re.op = 4
  · by_cases hl : re.kids.length = 1
    · have hl' : (re.kids.length : Int) = 1 := by omega
      have hl0 : (0 : Int) < 1 := by omega
      obtain ⟨k, hk1⟩ : ∃ k, re.kids = [k] := List.length_eq_one_iff.1 hl
      have hk0 : re.kids[0]? = some k := by rw [hk1]; rfl
      have hmk : k ∈ re.kids := by rw [hk1]; simp
      have hkf := hfk k hmk
      by_cases hmode : re.mode = 2
      · rw [show re.exa = false by rw [Re.exa_eq]; simp [exaNode, o4, hmode]]
        simp only [vsA, vsB, vsC, appendWp, Nat.reduceShiftRight, Nat.reduceMod, Nat.reduceLT, Nat.reduceMul, Nat.reduceSub, Int.reduceToNat, Int.reduceNeg, Int.reduceLT, Int.reduceLE, Int.reduceEq, Nat.reduceEqDiff, Nat.reduceAdd, Nat.reduceLeDiff, reduceIte, reduceCtorEq, Nat.reduceBEq, tysA, i64, reEl, Re.cells_eq re, iD, bD, bV, o4, hl', hmode]
        all_goals first | exact ⟨rfl, rfl⟩ | exact ⟨rfl, trivial⟩ | rfl | trivial | (rw [reV_eq]; rfl)
      · simp only [vsA, vsB, vsC, appendWp, Nat.reduceShiftRight, Nat.reduceMod, Nat.reduceLT, Nat.reduceMul, Nat.reduceSub, Int.reduceToNat, Int.reduceNeg, Int.reduceLT, Int.reduceLE, Int.reduceEq, Nat.reduceEqDiff, Nat.reduceAdd, Nat.reduceLeDiff, reduceIte, reduceCtorEq, Nat.reduceBEq, tysA, i64, reEl, Re.cells_eq re, iD, bD, bV, o4, hl', hmode]
        refine call_pure (o4 ▸ hkc) (by simp [refsV, refsV.go, reV_eq, i64, bV, reEl]) (by simp [refsV, refsV.go, reV_eq, i64, bV, reEl]) ?_
        cases hkp : re.kept with
        | true =>
          have hnode : exaNode re.op re.mx re.mn re.mode re.kids (re.kids.map Re.anul) = true := by
            have hkp' : (decide (re.mn = 0) && (decide (re.mx = -1) || decide (re.mx = 1))) = true := hkp
            simp only [exaNode, hkp']; simp [hl, hmode]
          simp only [vsA, vsB, vsC, appendWp, Nat.reduceShiftRight, Nat.reduceMod, Nat.reduceLT, Nat.reduceMul, Nat.reduceSub, Int.reduceToNat, Int.reduceNeg, Int.reduceLT, Int.reduceLE, Int.reduceEq, Nat.reduceEqDiff, Nat.reduceAdd, Nat.reduceLeDiff, reduceIte, reduceCtorEq, Nat.reduceBEq, tysA, i64, reEl, Re.cells_eq re, iD, bD, bV, o4, hl', hmode, hkp]
          refine loop_rule (fun n e s => ∃ i : Nat, n = re.kids.length - i ∧ i ≤ re.kids.length ∧ e 0 = reEl re ∧ (∀ x ∈ re.kids.take i, x.exa = true) ∧ e 40 = i64 re.kids.length ∧ e 41 = i64 i ∧ s = [])
            ⟨_, _, _, Cln.refl, 0, rfl, by omega, by simp [reEl, Re.cells_eq re, iD, bD, o4]; rfl, by simp, by first | rfl | (simp only [i64, hl']; rfl), rfl, rfl⟩ ?_
          rintro n e s ⟨i, rfl, hi, h0, hall, h40, h41, rfl⟩
          rcases Nat.lt_or_ge i re.kids.length with hlt | hge
          · obtain ⟨k, hk⟩ : ∃ k, re.kids[i]? = some k := ⟨_, List.getElem?_eq_getElem hlt⟩
            have hm := List.mem_of_getElem? hk
            have hks := hfk k hm
            simp only [vsA, vsB, vsC, appendWp, Nat.reduceShiftRight, Nat.reduceMod, Nat.reduceLT, Nat.reduceMul, Nat.reduceSub, Int.reduceToNat, Int.reduceNeg, Int.reduceLT, Int.reduceLE, Int.reduceEq, Nat.reduceEqDiff, Nat.reduceAdd, Nat.reduceLeDiff, reduceIte, reduceCtorEq, Nat.reduceBEq, tysA, i64, reEl, Re.cells_eq re, iD, bD, bV, h0, h40, h41, hlt, hk]
            refine call_pure (ih k hm hks) (by simp [refsV, refsV.go, reV_eq, i64, bV, reEl]) (by simp [refsV, refsV.go, reV_eq, i64, bV, reEl]) ?_
            cases hkn : k.exa with
            | true =>
              simp only [vsA, vsB, vsC, appendWp, Nat.reduceShiftRight, Nat.reduceMod, Nat.reduceLT, Nat.reduceMul, Nat.reduceSub, Int.reduceToNat, Int.reduceNeg, Int.reduceLT, Int.reduceLE, Int.reduceEq, Nat.reduceEqDiff, Nat.reduceAdd, Nat.reduceLeDiff, reduceIte, reduceCtorEq, Nat.reduceBEq, tysA, i64, reEl, Re.cells_eq re, iD, bD, bV, h0, h40, h41, hkn]
              refine ⟨re.kids.length - (i + 1), _, _, by omega, Cln.refl, i + 1, rfl, hlt, ?_, ?_, ?_, ?_, rfl⟩ <;> (try simp only [keepE_app, List.contains_cons, List.contains_nil, Nat.reduceBEq, Bool.or_false, Bool.false_or, Bool.or_true, Bool.true_or, updE, trimE_upd, trimE_trim, trimE_app, Nat.reduceShiftRight, Nat.reduceMod, Nat.reduceEqDiff, if_true, if_false, reduceIte])
              · simpa [reEl, Re.cells_eq re, iD, bD, o4] using h0
              · intro x hx
                rw [take_get hk] at hx
                rcases List.mem_append.1 hx with hx | hx
                · exact hall x hx
                · rw [List.mem_singleton.1 hx]; exact hkn
              · exact h40
              · rw [w64 _ (by omega)]; rfl
            | false =>
              simp only [vsA, vsB, vsC, appendWp, Nat.reduceShiftRight, Nat.reduceMod, Nat.reduceLT, Nat.reduceMul, Nat.reduceSub, Int.reduceToNat, Int.reduceNeg, Int.reduceLT, Int.reduceLE, Int.reduceEq, Nat.reduceEqDiff, Nat.reduceAdd, Nat.reduceLeDiff, reduceIte, reduceCtorEq, Nat.reduceBEq, tysA, i64, reEl, Re.cells_eq re, iD, bD, bV, h0, h40, h41, hkn]
              have : re.kids.all Re.exa = false := by rw [List.all_eq_false]; exact ⟨k, hm, by simp [hkn]⟩
              rw [Re.exa_eq, this, Bool.and_false]
          · have hie : i = re.kids.length := by omega
            subst hie
            rw [List.take_length] at hall
            have : re.kids.all Re.exa = true := by rw [List.all_eq_true]; exact hall
            rw [Re.exa_eq, this, hnode, Bool.and_self]
            simp only [vsA, vsB, vsC, appendWp, Nat.reduceShiftRight, Nat.reduceMod, Nat.reduceLT, Nat.reduceMul, Nat.reduceSub, Int.reduceToNat, Int.reduceNeg, Int.reduceLT, Int.reduceLE, Int.reduceEq, Nat.reduceEqDiff, Nat.reduceAdd, Nat.reduceLeDiff, reduceIte, reduceCtorEq, Nat.reduceBEq, tysA, i64, reEl, Re.cells_eq re, iD, bD, bV, h0, h40, h41, Nat.lt_irrefl]
            all_goals first | exact ⟨rfl, rfl⟩ | exact ⟨rfl, trivial⟩ | rfl | trivial | (rw [reV_eq]; rfl)
        | false =>
          have hkp' : (decide (re.mn = 0) && (decide (re.mx = -1) || decide (re.mx = 1))) = false := hkp
          simp only [vsA, vsB, vsC, appendWp, Nat.reduceShiftRight, Nat.reduceMod, Nat.reduceLT, Nat.reduceMul, Nat.reduceSub, Int.reduceToNat, Int.reduceNeg, Int.reduceLT, Int.reduceLE, Int.reduceEq, Nat.reduceEqDiff, Nat.reduceAdd, Nat.reduceLeDiff, reduceIte, reduceCtorEq, Nat.reduceBEq, tysA, i64, reEl, Re.cells_eq re, iD, bD, bV, o4, hl', hl0, hk0, hmode, hkp]
          refine call_pure (nullable_ok k hkf) (by simp [refsV, refsV.go, reV_eq, i64, bV, reEl]) (by simp [refsV, refsV.go, reV_eq, i64, bV, reEl]) ?_
          cases hkn : k.anul with
          | true =>
            rw [show re.exa = false by rw [Re.exa_eq]; simp only [exaNode, hkp']; simp [o4, hk1, hkn]]
            simp only [vsA, vsB, vsC, appendWp, Nat.reduceShiftRight, Nat.reduceMod, Nat.reduceLT, Nat.reduceMul, Nat.reduceSub, Int.reduceToNat, Int.reduceNeg, Int.reduceLT, Int.reduceLE, Int.reduceEq, Nat.reduceEqDiff, Nat.reduceAdd, Nat.reduceLeDiff, reduceIte, reduceCtorEq, Nat.reduceBEq, tysA, i64, reEl, Re.cells_eq re, iD, bD, bV, o4, hkn]
            all_goals first | exact ⟨rfl, rfl⟩ | exact ⟨rfl, trivial⟩ | rfl | trivial | (rw [reV_eq]; rfl)
          | false =>
            have hnode : exaNode re.op re.mx re.mn re.mode re.kids (re.kids.map Re.anul) = true := by
              simp only [exaNode, hkp']; simp [hk1, hmode, hkn]
            simp only [vsA, vsB, vsC, appendWp, Nat.reduceShiftRight, Nat.reduceMod, Nat.reduceLT, Nat.reduceMul, Nat.reduceSub, Int.reduceToNat, Int.reduceNeg, Int.reduceLT, Int.reduceLE, Int.reduceEq, Nat.reduceEqDiff, Nat.reduceAdd, Nat.reduceLeDiff, reduceIte, reduceCtorEq, Nat.reduceBEq, tysA, i64, reEl, Re.cells_eq re, iD, bD, bV, o4, hl', hkn]
            refine loop_rule (fun n e s => ∃ i : Nat, n = re.kids.length - i ∧ i ≤ re.kids.length ∧ e 0 = reEl re ∧ (∀ x ∈ re.kids.take i, x.exa = true) ∧ e 40 = i64 re.kids.length ∧ e 41 = i64 i ∧ s = [])
              ⟨_, _, _, Cln.refl, 0, rfl, by omega, by simp [reEl, Re.cells_eq re, iD, bD, o4]; rfl, by simp, by first | rfl | (simp only [i64, hl']; rfl), rfl, rfl⟩ ?_
            rintro n e s ⟨i, rfl, hi, h0, hall, h40, h41, rfl⟩
            rcases Nat.lt_or_ge i re.kids.length with hlt | hge
            · obtain ⟨k, hk⟩ : ∃ k, re.kids[i]? = some k := ⟨_, List.getElem?_eq_getElem hlt⟩
              have hm := List.mem_of_getElem? hk
              have hks := hfk k hm
              simp only [vsA, vsB, vsC, appendWp, Nat.reduceShiftRight, Nat.reduceMod, Nat.reduceLT, Nat.reduceMul, Nat.reduceSub, Int.reduceToNat, Int.reduceNeg, Int.reduceLT, Int.reduceLE, Int.reduceEq, Nat.reduceEqDiff, Nat.reduceAdd, Nat.reduceLeDiff, reduceIte, reduceCtorEq, Nat.reduceBEq, tysA, i64, reEl, Re.cells_eq re, iD, bD, bV, h0, h40, h41, hlt, hk]
              refine call_pure (ih k hm hks) (by simp [refsV, refsV.go, reV_eq, i64, bV, reEl]) (by simp [refsV, refsV.go, reV_eq, i64, bV, reEl]) ?_
              cases hkn : k.exa with
              | true =>
                simp only [vsA, vsB, vsC, appendWp, Nat.reduceShiftRight, Nat.reduceMod, Nat.reduceLT, Nat.reduceMul, Nat.reduceSub, Int.reduceToNat, Int.reduceNeg, Int.reduceLT, Int.reduceLE, Int.reduceEq, Nat.reduceEqDiff, Nat.reduceAdd, Nat.reduceLeDiff, reduceIte, reduceCtorEq, Nat.reduceBEq, tysA, i64, reEl, Re.cells_eq re, iD, bD, bV, h0, h40, h41, hkn]
                refine ⟨re.kids.length - (i + 1), _, _, by omega, Cln.refl, i + 1, rfl, hlt, ?_, ?_, ?_, ?_, rfl⟩ <;> (try simp only [keepE_app, List.contains_cons, List.contains_nil, Nat.reduceBEq, Bool.or_false, Bool.false_or, Bool.or_true, Bool.true_or, updE, trimE_upd, trimE_trim, trimE_app, Nat.reduceShiftRight, Nat.reduceMod, Nat.reduceEqDiff, if_true, if_false, reduceIte])
                · simpa [reEl, Re.cells_eq re, iD, bD, o4] using h0
                · intro x hx
                  rw [take_get hk] at hx
                  rcases List.mem_append.1 hx with hx | hx
                  · exact hall x hx
                  · rw [List.mem_singleton.1 hx]; exact hkn
                · exact h40
                · rw [w64 _ (by omega)]; rfl
              | false =>
                simp only [vsA, vsB, vsC, appendWp, Nat.reduceShiftRight, Nat.reduceMod, Nat.reduceLT, Nat.reduceMul, Nat.reduceSub, Int.reduceToNat, Int.reduceNeg, Int.reduceLT, Int.reduceLE, Int.reduceEq, Nat.reduceEqDiff, Nat.reduceAdd, Nat.reduceLeDiff, reduceIte, reduceCtorEq, Nat.reduceBEq, tysA, i64, reEl, Re.cells_eq re, iD, bD, bV, h0, h40, h41, hkn]
                have : re.kids.all Re.exa = false := by rw [List.all_eq_false]; exact ⟨k, hm, by simp [hkn]⟩
                rw [Re.exa_eq, this, Bool.and_false]
            · have hie : i = re.kids.length := by omega
              subst hie
              rw [List.take_length] at hall
              have : re.kids.all Re.exa = true := by rw [List.all_eq_true]; exact hall
              rw [Re.exa_eq, this, hnode, Bool.and_self]
              simp only [vsA, vsB, vsC, appendWp, Nat.reduceShiftRight, Nat.reduceMod, Nat.reduceLT, Nat.reduceMul, Nat.reduceSub, Int.reduceToNat, Int.reduceNeg, Int.reduceLT, Int.reduceLE, Int.reduceEq, Nat.reduceEqDiff, Nat.reduceAdd, Nat.reduceLeDiff, reduceIte, reduceCtorEq, Nat.reduceBEq, tysA, i64, reEl, Re.cells_eq re, iD, bD, bV, h0, h40, h41, Nat.lt_irrefl]
              all_goals first | exact ⟨rfl, rfl⟩ | exact ⟨rfl, trivial⟩ | rfl | trivial | (rw [reV_eq]; rfl)
    · have hl' : ¬ (re.kids.length : Int) = 1 := by omega
      rw [show re.exa = false by rw [Re.exa_eq]; simp [exaNode, o4, hl]]
      simp only [vsA, vsB, vsC, appendWp, Nat.reduceShiftRight, Nat.reduceMod, Nat.reduceLT, Nat.reduceMul, Nat.reduceSub, Int.reduceToNat, Int.reduceNeg, Int.reduceLT, Int.reduceLE, Int.reduceEq, Nat.reduceEqDiff, Nat.reduceAdd, Nat.reduceLeDiff, reduceIte, reduceCtorEq, Nat.reduceBEq, tysA, i64, reEl, Re.cells_eq re, iD, bD, bV, o4, hl']
      all_goals first | exact ⟨rfl, rfl⟩ | exact ⟨rfl, trivial⟩ | rfl | trivial | (rw [reV_eq]; rfl)
  · have hnode : exaNode re.op re.mx re.mn re.mode re.kids (re.kids.map Re.anul) = true := by simp [exaNode, o4]
    simp only [vsA, vsB, vsC, appendWp, Nat.reduceShiftRight, Nat.reduceMod, Nat.reduceLT, Nat.reduceMul, Nat.reduceSub, Int.reduceToNat, Int.reduceNeg, Int.reduceLT, Int.reduceLE, Int.reduceEq, Nat.reduceEqDiff, Nat.reduceAdd, Nat.reduceLeDiff, reduceIte, reduceCtorEq, Nat.reduceBEq, tysA, i64, reEl, Re.cells_eq re, iD, bD, bV, o4]
    refine loop_rule (fun n e s => ∃ i : Nat, n = re.kids.length - i ∧ i ≤ re.kids.length ∧ e 0 = reEl re ∧ (∀ x ∈ re.kids.take i, x.exa = true) ∧ e 40 = i64 re.kids.length ∧ e 41 = i64 i ∧ s = [])
      ⟨_, _, _, Cln.refl, 0, rfl, by omega, by simp [reEl, Re.cells_eq re, iD, bD, o4]; rfl, by simp, by first | rfl | (simp only [i64, hl']; rfl), rfl, rfl⟩ ?_
    rintro n e s ⟨i, rfl, hi, h0, hall, h40, h41, rfl⟩
    rcases Nat.lt_or_ge i re.kids.length with hlt | hge
    · obtain ⟨k, hk⟩ : ∃ k, re.kids[i]? = some k := ⟨_, List.getElem?_eq_getElem hlt⟩
      have hm := List.mem_of_getElem? hk
      have hks := hfk k hm
      simp only [vsA, vsB, vsC, appendWp, Nat.reduceShiftRight, Nat.reduceMod, Nat.reduceLT, Nat.reduceMul, Nat.reduceSub, Int.reduceToNat, Int.reduceNeg, Int.reduceLT, Int.reduceLE, Int.reduceEq, Nat.reduceEqDiff, Nat.reduceAdd, Nat.reduceLeDiff, reduceIte, reduceCtorEq, Nat.reduceBEq, tysA, i64, reEl, Re.cells_eq re, iD, bD, bV, h0, h40, h41, hlt, hk]
      refine call_pure (ih k hm hks) (by simp [refsV, refsV.go, reV_eq, i64, bV, reEl]) (by simp [refsV, refsV.go, reV_eq, i64, bV, reEl]) ?_
      cases hkn : k.exa with
      | true =>
        simp only [vsA, vsB, vsC, appendWp, Nat.reduceShiftRight, Nat.reduceMod, Nat.reduceLT, Nat.reduceMul, Nat.reduceSub, Int.reduceToNat, Int.reduceNeg, Int.reduceLT, Int.reduceLE, Int.reduceEq, Nat.reduceEqDiff, Nat.reduceAdd, Nat.reduceLeDiff, reduceIte, reduceCtorEq, Nat.reduceBEq, tysA, i64, reEl, Re.cells_eq re, iD, bD, bV, h0, h40, h41, hkn]
        refine ⟨re.kids.length - (i + 1), _, _, by omega, Cln.refl, i + 1, rfl, hlt, ?_, ?_, ?_, ?_, rfl⟩ <;> (try simp only [keepE_app, List.contains_cons, List.contains_nil, Nat.reduceBEq, Bool.or_false, Bool.false_or, Bool.or_true, Bool.true_or, updE, trimE_upd, trimE_trim, trimE_app, Nat.reduceShiftRight, Nat.reduceMod, Nat.reduceEqDiff, if_true, if_false, reduceIte])
        · simpa [reEl, Re.cells_eq re, iD, bD, o4] using h0
        · intro x hx
          rw [take_get hk] at hx
          rcases List.mem_append.1 hx with hx | hx
          · exact hall x hx
          · rw [List.mem_singleton.1 hx]; exact hkn
        · exact h40
        · rw [w64 _ (by omega)]; rfl
      | false =>
        simp only [vsA, vsB, vsC, appendWp, Nat.reduceShiftRight, Nat.reduceMod, Nat.reduceLT, Nat.reduceMul, Nat.reduceSub, Int.reduceToNat, Int.reduceNeg, Int.reduceLT, Int.reduceLE, Int.reduceEq, Nat.reduceEqDiff, Nat.reduceAdd, Nat.reduceLeDiff, reduceIte, reduceCtorEq, Nat.reduceBEq, tysA, i64, reEl, Re.cells_eq re, iD, bD, bV, h0, h40, h41, hkn]
        have : re.kids.all Re.exa = false := by rw [List.all_eq_false]; exact ⟨k, hm, by simp [hkn]⟩
        rw [Re.exa_eq, this, Bool.and_false]
    · have hie : i = re.kids.length := by omega
      subst hie
      rw [List.take_length] at hall
      have : re.kids.all Re.exa = true := by rw [List.all_eq_true]; exact hall
      rw [Re.exa_eq, this, hnode, Bool.and_self]
      simp only [vsA, vsB, vsC, appendWp, Nat.reduceShiftRight, Nat.reduceMod, Nat.reduceLT, Nat.reduceMul, Nat.reduceSub, Int.reduceToNat, Int.reduceNeg, Int.reduceLT, Int.reduceLE, Int.reduceEq, Nat.reduceEqDiff, Nat.reduceAdd, Nat.reduceLeDiff, reduceIte, reduceCtorEq, Nat.reduceBEq, tysA, i64, reEl, Re.cells_eq re, iD, bD, bV, h0, h40, h41, Nat.lt_irrefl]
      all_goals first | exact ⟨rfl, rfl⟩ | exact ⟨rfl, trivial⟩ | rfl | trivial | (rw [reV_eq]; rfl)

/-! ### The size of what Expand returns -/

def kidSum (l : List Int) : Int := l.foldl (fun a k => min (IntKind.i64.wrap (a + k)) 4097) 0

theorem kidSum_snoc (l : List Int) (k : Int) : kidSum (l ++ [k]) = min (IntKind.i64.wrap (kidSum l + k)) 4097 := by simp [kidSum, List.foldl_append]

def eszNode (op mn mx kid : Int) : Int :=
  if ¬ op = 4 ∨ (decide (mn = 0) && (decide (mx = -1) || decide (mx = 1))) = true then min (IntKind.i64.wrap (1 + kid)) 4097
  else
    let least := min (max mn 0) 4097
    let sum := IntKind.i64.wrap (least * kid)
    let more := min (IntKind.i64.wrap (mx - mn)) 4097
    let ps : Int × Int :=
      if mx = -1 then (IntKind.i64.wrap (least + 1), IntKind.i64.wrap (IntKind.i64.wrap (sum + 1) + kid))
      else if 0 < more then (IntKind.i64.wrap (least + 1), IntKind.i64.wrap (IntKind.i64.wrap (IntKind.i64.wrap (sum + 1) + kid) + IntKind.i64.wrap (IntKind.i64.wrap (more - 1) * IntKind.i64.wrap (2 + kid))))
      else (least, sum)
    min (if 1 < ps.1 then IntKind.i64.wrap (ps.2 + 1) else ps.2) 4097

mutual
def Re.esz : Re → Int
  | .mk op _ kids mn mx _ _ _ => eszNode op mn mx (kidSum (Re.eszL kids))
def Re.eszL : List Re → List Int
  | [] => []
  | k :: l => k.esz :: Re.eszL l
end

theorem Re.eszL_eq : ∀ l : List Re, Re.eszL l = l.map Re.esz
  | [] => by simp [Re.eszL]
  | k :: l => by simp [Re.eszL, Re.eszL_eq l]

theorem Re.esz_eq (re : Re) : re.esz = eszNode re.op re.mn re.mx (kidSum (re.kids.map Re.esz)) := by
  cases re; simp [Re.esz, Re.eszL_eq, Re.op, Re.mn, Re.mx, Re.kids]

set_option maxRecDepth 100000 in
set_option maxHeartbeats 8000000 in
theorem expandedSize_ok (re : Re) (hs : re.fine = true) : PureOK Try.prog 60 [reEl re] (i64 re.esz) := by
  revert hs
  refine Re.ind (Q := fun re => re.fine = true → PureOK Try.prog 60 [reEl re] (i64 re.esz)) (fun re ih hs => ?_) re
  obtain ⟨hset1, hlen, hfk⟩ := Re.fine_spec hs
  have hkc := kept_ok re
  rw [reEl, Re.cells_eq re] at hkc
  simp only [iD, bD, bV] at hkc
  refine fn_ok Try.func60 rfl Try.ntmps60 Try.results60 rfl 0 25085 (by simp) (by simp) ?_

  simp only [vsA, vsB, vsC, appendWp, Nat.reduceShiftRight, Nat.reduceMod, Nat.reduceLT, Nat.reduceMul, Nat.reduceSub, Int.reduceToNat, Int.reduceNeg, Int.reduceLT, Int.reduceLE, Int.reduceEq, Nat.reduceEqDiff, Nat.reduceAdd, Nat.reduceLeDiff, reduceIte, reduceCtorEq, Nat.reduceBEq, tysA, i64, reEl, Re.cells_eq re, iD, bD, bV]
  refine loop_rule (fun n e s => ∃ i : Nat, n = re.kids.length - i ∧ i ≤ re.kids.length ∧ e 0 = reEl re ∧ e 3 = i64 (kidSum ((re.kids.take i).map Re.esz)) ∧ e 13 = i64 re.kids.length ∧ e 14 = i64 i ∧ s = [])
    ⟨_, _, _, Cln.refl, 0, rfl, by omega, by simp [reEl, Re.cells_eq re, iD, bD]; rfl, rfl, rfl, rfl, rfl⟩ ?_
  rintro n e s ⟨i, rfl, hi, h0, h3, h13, h14, rfl⟩
  rcases Nat.lt_or_ge i re.kids.length with hlt | hge
  · obtain ⟨k, hk⟩ : ∃ k, re.kids[i]? = some k := ⟨_, List.getElem?_eq_getElem hlt⟩
    have hm := List.mem_of_getElem? hk
    have hks := hfk k hm
    simp only [vsA, vsB, vsC, appendWp, Nat.reduceShiftRight, Nat.reduceMod, Nat.reduceLT, Nat.reduceMul, Nat.reduceSub, Int.reduceToNat, Int.reduceNeg, Int.reduceLT, Int.reduceLE, Int.reduceEq, Nat.reduceEqDiff, Nat.reduceAdd, Nat.reduceLeDiff, reduceIte, reduceCtorEq, Nat.reduceBEq, tysA, i64, reEl, Re.cells_eq re, iD, bD, bV, h0, h3, h13, h14, hlt, hk]
    refine call_pure (ih k hm hks) (by simp [refsV, refsV.go, reV_eq, i64, bV, reEl]) (by simp [refsV, refsV.go, reV_eq, i64, bV, reEl]) ?_
    simp only [vsA, vsB, vsC, appendWp, Nat.reduceShiftRight, Nat.reduceMod, Nat.reduceLT, Nat.reduceMul, Nat.reduceSub, Int.reduceToNat, Int.reduceNeg, Int.reduceLT, Int.reduceLE, Int.reduceEq, Nat.reduceEqDiff, Nat.reduceAdd, Nat.reduceLeDiff, reduceIte, reduceCtorEq, Nat.reduceBEq, tysA, i64, reEl, Re.cells_eq re, iD, bD, bV, h0, h3, h13, h14]
    refine ⟨re.kids.length - (i + 1), _, _, by omega, Cln.refl, i + 1, rfl, hlt, ?_, ?_, ?_, ?_, rfl⟩ <;> (try simp only [keepE_app, List.contains_cons, List.contains_nil, Nat.reduceBEq, Bool.or_false, Bool.false_or, Bool.or_true, Bool.true_or, updE, trimE_upd, trimE_trim, trimE_app, Nat.reduceShiftRight, Nat.reduceMod, Nat.reduceEqDiff, if_true, if_false, reduceIte])
    · simpa [reEl, Re.cells_eq re, iD, bD] using h0
    · rw [take_get hk, List.map_append, List.map_cons, List.map_nil, kidSum_snoc]
    · exact h13
    · rw [w64 _ (by omega)]; rfl
  have hie : i = re.kids.length := by omega
  subst hie
  rw [List.take_length] at h3
  rw [Re.esz_eq]
  generalize kidSum (re.kids.map Re.esz) = kid at *
  by_cases o4 : re.op = 4
  · simp only [vsA, vsB, vsC, appendWp, Nat.reduceShiftRight, Nat.reduceMod, Nat.reduceLT, Nat.reduceMul, Nat.reduceSub, Int.reduceToNat, Int.reduceNeg, Int.reduceLT, Int.reduceLE, Int.reduceEq, Nat.reduceEqDiff, Nat.reduceAdd, Nat.reduceLeDiff, reduceIte, reduceCtorEq, Nat.reduceBEq, tysA, i64, reEl, Re.cells_eq re, iD, bD, bV, h0, h3, h13, h14, Nat.lt_irrefl, o4]
    refine call_pure (o4 ▸ hkc) (by simp [refsV, refsV.go, reV_eq, i64, bV, reEl]) (by simp [refsV, refsV.go, reV_eq, i64, bV, reEl]) ?_
    cases hkp : re.kept with
    | true =>
      have hkp' : (decide (re.mn = 0) && (decide (re.mx = -1) || decide (re.mx = 1))) = true := hkp
      simp only [vsA, vsB, vsC, appendWp, Nat.reduceShiftRight, Nat.reduceMod, Nat.reduceLT, Nat.reduceMul, Nat.reduceSub, Int.reduceToNat, Int.reduceNeg, Int.reduceLT, Int.reduceLE, Int.reduceEq, Nat.reduceEqDiff, Nat.reduceAdd, Nat.reduceLeDiff, reduceIte, reduceCtorEq, Nat.reduceBEq, tysA, i64, reEl, Re.cells_eq re, iD, bD, bV, h0, h3, hkp]
      simp only [eszNode, hkp', or_true, if_true]
    | false =>
      have hkp' : (decide (re.mn = 0) && (decide (re.mx = -1) || decide (re.mx = 1))) = false := hkp
      by_cases m1 : re.mx = -1
      · by_cases hp : 1 < IntKind.i64.wrap (min (max re.mn 0) 4097 + 1)
        · simp only [vsA, vsB, vsC, appendWp, Nat.reduceShiftRight, Nat.reduceMod, Nat.reduceLT, Nat.reduceMul, Nat.reduceSub, Int.reduceToNat, Int.reduceNeg, Int.reduceLT, Int.reduceLE, Int.reduceEq, Nat.reduceEqDiff, Nat.reduceAdd, Nat.reduceLeDiff, reduceIte, reduceCtorEq, Nat.reduceBEq, tysA, i64, reEl, Re.cells_eq re, iD, bD, bV, h0, h3, hkp, m1, hp]
          rw [eszNode, if_neg (by first | (rw [hkp']; simp [o4]) | (rw [m1] at hkp'; rw [hkp']; simp))]; simp [m1, hp]
        · simp only [vsA, vsB, vsC, appendWp, Nat.reduceShiftRight, Nat.reduceMod, Nat.reduceLT, Nat.reduceMul, Nat.reduceSub, Int.reduceToNat, Int.reduceNeg, Int.reduceLT, Int.reduceLE, Int.reduceEq, Nat.reduceEqDiff, Nat.reduceAdd, Nat.reduceLeDiff, reduceIte, reduceCtorEq, Nat.reduceBEq, tysA, i64, reEl, Re.cells_eq re, iD, bD, bV, h0, h3, hkp, m1, hp]
          rw [eszNode, if_neg (by first | (rw [hkp']; simp [o4]) | (rw [m1] at hkp'; rw [hkp']; simp))]; simp [m1, hp]
      · simp only [vsA, vsB, vsC, appendWp, Nat.reduceShiftRight, Nat.reduceMod, Nat.reduceLT, Nat.reduceMul, Nat.reduceSub, Int.reduceToNat, Int.reduceNeg, Int.reduceLT, Int.reduceLE, Int.reduceEq, Nat.reduceEqDiff, Nat.reduceAdd, Nat.reduceLeDiff, reduceIte, reduceCtorEq, Nat.reduceBEq, tysA, i64, reEl, Re.cells_eq re, iD, bD, bV, h0, h3, hkp, m1]
        refine draw_c mix [] [] (by rfl) ?_
        by_cases hmo : 0 < min (IntKind.i64.wrap (re.mx - re.mn)) 4097
        · by_cases hp : 1 < IntKind.i64.wrap (min (max re.mn 0) 4097 + 1)
          · simp only [vsA, vsB, vsC, appendWp, Nat.reduceShiftRight, Nat.reduceMod, Nat.reduceLT, Nat.reduceMul, Nat.reduceSub, Int.reduceToNat, Int.reduceNeg, Int.reduceLT, Int.reduceLE, Int.reduceEq, Nat.reduceEqDiff, Nat.reduceAdd, Nat.reduceLeDiff, reduceIte, reduceCtorEq, Nat.reduceBEq, tysA, i64, reEl, Re.cells_eq re, iD, bD, bV, h0, h3, hkp, m1, hmo, hp]
            rw [eszNode, if_neg (by first | (rw [hkp']; simp [o4]) | (rw [m1] at hkp'; rw [hkp']; simp))]; simp [m1, hmo, hp]
          · simp only [vsA, vsB, vsC, appendWp, Nat.reduceShiftRight, Nat.reduceMod, Nat.reduceLT, Nat.reduceMul, Nat.reduceSub, Int.reduceToNat, Int.reduceNeg, Int.reduceLT, Int.reduceLE, Int.reduceEq, Nat.reduceEqDiff, Nat.reduceAdd, Nat.reduceLeDiff, reduceIte, reduceCtorEq, Nat.reduceBEq, tysA, i64, reEl, Re.cells_eq re, iD, bD, bV, h0, h3, hkp, m1, hmo, hp]
            rw [eszNode, if_neg (by first | (rw [hkp']; simp [o4]) | (rw [m1] at hkp'; rw [hkp']; simp))]; simp [m1, hmo, hp]
        · by_cases hp : 1 < min (max re.mn 0) 4097
          · simp only [vsA, vsB, vsC, appendWp, Nat.reduceShiftRight, Nat.reduceMod, Nat.reduceLT, Nat.reduceMul, Nat.reduceSub, Int.reduceToNat, Int.reduceNeg, Int.reduceLT, Int.reduceLE, Int.reduceEq, Nat.reduceEqDiff, Nat.reduceAdd, Nat.reduceLeDiff, reduceIte, reduceCtorEq, Nat.reduceBEq, tysA, i64, reEl, Re.cells_eq re, iD, bD, bV, h0, h3, hkp, m1, hmo, hp]
            rw [eszNode, if_neg (by first | (rw [hkp']; simp [o4]) | (rw [m1] at hkp'; rw [hkp']; simp))]; simp [m1, hmo, hp]
          · simp only [vsA, vsB, vsC, appendWp, Nat.reduceShiftRight, Nat.reduceMod, Nat.reduceLT, Nat.reduceMul, Nat.reduceSub, Int.reduceToNat, Int.reduceNeg, Int.reduceLT, Int.reduceLE, Int.reduceEq, Nat.reduceEqDiff, Nat.reduceAdd, Nat.reduceLeDiff, reduceIte, reduceCtorEq, Nat.reduceBEq, tysA, i64, reEl, Re.cells_eq re, iD, bD, bV, h0, h3, hkp, m1, hmo, hp]
            rw [eszNode, if_neg (by first | (rw [hkp']; simp [o4]) | (rw [m1] at hkp'; rw [hkp']; simp))]; simp [m1, hmo, hp]
  · simp only [vsA, vsB, vsC, appendWp, Nat.reduceShiftRight, Nat.reduceMod, Nat.reduceLT, Nat.reduceMul, Nat.reduceSub, Int.reduceToNat, Int.reduceNeg, Int.reduceLT, Int.reduceLE, Int.reduceEq, Nat.reduceEqDiff, Nat.reduceAdd, Nat.reduceLeDiff, reduceIte, reduceCtorEq, Nat.reduceBEq, tysA, i64, reEl, Re.cells_eq re, iD, bD, bV, h0, h3, h13, h14, Nat.lt_irrefl, o4]
    simp [eszNode, o4]

end Go.Proofs.Ytafbdphblilenaa

set_option linter.unusedSimpArgs false
set_option linter.unusedVariables false
namespace Go.Proofs.Ytafbdphblilenaa
open Go.VL

/-- A node with the kids v. -/
def nodeV (re : Re) (v : V) : V := .ag [i64 re.op, .d (.sl (re.set.map spanC)), v, i64 re.mn, i64 re.mx, i64 re.mode, i64 re.n, bV re.neg]

set_option maxRecDepth 100000 in
set_option maxHeartbeats 8000000 in
theorem clone0_ok (re : Re) (hs : re.set.length ≤ 1000000000) : PureOK Try.prog 62 [nodeV re (.fu [])] (nodeV re (.fu [])) := by
  refine fn_keep Try.func62 rfl Try.ntmps62 Try.results62 rfl 0 57391 (by simp) (by simp) ?_
  simp only [vsA, vsB, vsC, appendWp, Nat.reduceShiftRight, Nat.reduceMod, Nat.reduceLT, Nat.reduceMul, Nat.reduceSub, Int.reduceToNat, Int.reduceNeg, Int.reduceLT, Int.reduceLE, Int.reduceEq, Nat.reduceEqDiff, Nat.reduceAdd, Nat.reduceLeDiff, reduceIte, reduceCtorEq, Nat.reduceBEq, tysA, nodeV, i64, bV]
  refine call_pure (cloneSpans_ok re.set hs) (by simp [refsV, refsV.go, reV_eq, i64, bV, reEl]) (by simp [refsV, refsV.go, reV_eq, i64, bV, reEl]) ?_
  simp only [vsA, vsB, vsC, appendWp, Nat.reduceShiftRight, Nat.reduceMod, Nat.reduceLT, Nat.reduceMul, Nat.reduceSub, Int.reduceToNat, Int.reduceNeg, Int.reduceLT, Int.reduceLE, Int.reduceEq, Nat.reduceEqDiff, Nat.reduceAdd, Nat.reduceLeDiff, reduceIte, reduceCtorEq, Nat.reduceBEq, tysA, nodeV, i64, bV]
  refine loop_rule (fun n e s => n = 0 ∧ e 1 = .rf 0 0 0 0 ∧ e 2 = .rf 1 0 0 0 ∧ e 14 = i64 0 ∧ e 15 = i64 0 ∧ s = [cloneO re (.fu []), zeroO])
    ⟨_, _, _, Cln.refl, rfl, rfl, rfl, rfl, rfl, rfl⟩ ?_
  rintro n e s ⟨rfl, h1, h2, h14, h15, rfl⟩
  simp only [vsA, vsB, vsC, appendWp, Nat.reduceShiftRight, Nat.reduceMod, Nat.reduceLT, Nat.reduceMul, Nat.reduceSub, Int.reduceToNat, Int.reduceNeg, Int.reduceLT, Int.reduceLE, Int.reduceEq, Nat.reduceEqDiff, Nat.reduceAdd, Nat.reduceLeDiff, reduceIte, reduceCtorEq, Nat.reduceBEq, tysA, h1, h2, h14, h15, i64, bV, cloneO, zeroO, Nat.lt_irrefl, Qkeep_app, keepWp, refsV, refsV.go, Int.lt_irrefl]
  all_goals first | exact ⟨rfl, rfl⟩ | exact ⟨rfl, trivial⟩ | rfl | trivial | (rw [reV_eq]; rfl)

/-! ### Expand -/

mutual
def Re.exp : Re → Re
  | .mk op set kids mn mx mode n neg =>
    if op = 4 ∧ (decide (mn = 0) && (decide (mx = -1) || decide (mx = 1))) = false then unrollR (.mk op set kids mn mx mode n neg) ((Re.expL kids).headD (.mk 0 [] [] 0 0 0 0 false))
    else .mk op set (Re.expL kids) mn mx mode n neg
def Re.expL : List Re → List Re
  | [] => []
  | k :: l => k.exp :: Re.expL l
end

theorem Re.expL_eq : ∀ l : List Re, Re.expL l = l.map Re.exp
  | [] => by simp [Re.expL]
  | k :: l => by simp [Re.expL, Re.expL_eq l]

def Re.out (re : Re) : Re := .mk re.op re.set (re.kids.map Re.exp) re.mn re.mx re.mode re.n re.neg

theorem Re.exp_keep {re : Re} (h : re.op ≠ 4 ∨ re.kept = true) : re.exp = re.out := by
  cases re with
  | mk op set kids mn mx mode n neg =>
    have : ¬ (op = 4 ∧ (decide (mn = 0) && (decide (mx = -1) || decide (mx = 1))) = false) := by
      rintro ⟨h1, h2⟩
      rcases h with h | h
      · exact h h1
      · have h' : (decide (mn = 0) && (decide (mx = -1) || decide (mx = 1))) = true := h
        rw [h2] at h'; cases h'
    rw [Re.exp, if_neg this, Re.expL_eq]; rfl

theorem Re.exp_un {re : Re} (h4 : re.op = 4) (hk : re.kept = false) {k : Re} {l : List Re} (hl : re.kids = k :: l) : re.exp = unrollR re k.exp := by
  cases re with
  | mk op set kids mn mx mode n neg =>
    have h' : (decide (mn = 0) && (decide (mx = -1) || decide (mx = 1))) = false := hk
    have hl' : kids = k :: l := hl
    rw [Re.exp, if_pos ⟨h4, h'⟩, hl']
    rfl

/-- What unrolling asks of a tree. -/
def exNode (re : Re) : Prop := re.op = 4 → re.kept = false → (re.kids ≠ [] ∧ 0 ≤ re.mn ∧ re.mn ≤ 1000000 ∧ -1 ≤ re.mx ∧ re.mx ≤ 1000000)

def ExpOK (re : Re) : Prop := callWp Try.prog 61 [reV re, .rf 0 0 0 0] [cellO 61] fun v s => v = reV re.exp ∧ s = [cellO 61]

set_option maxRecDepth 100000 in
set_option maxHeartbeats 8000000 in
theorem exp_step (re : Re) (hs : re.fine = true) (ih : ∀ k ∈ re.kids, ExpOK k) (hx : ∀ k ∈ re.kids, k.exp.fine = true) (hn : exNode re) : ExpOK re := by
  obtain ⟨hset1, hlen, hfk⟩ := Re.fine_spec hs
  have hcl := clone0_ok re hset1
  simp only [nodeV, i64, bV] at hcl
  have hkc := kept_ok re
  rw [reEl, Re.cells_eq re] at hkc
  simp only [iD, bD, bV] at hkc
  unfold ExpOK
  refine fn_ok Try.func61 rfl Try.ntmps61 Try.results61 rfl 1 117440607 (by simp) (by simp) ?_
  simp only [vsA, vsB, vsC, appendWp, Nat.reduceShiftRight, Nat.reduceMod, Nat.reduceLT, Nat.reduceMul, Nat.reduceSub, Int.reduceToNat, Int.reduceNeg, Int.reduceLT, Int.reduceLE, Int.reduceEq, Nat.reduceEqDiff, Nat.reduceAdd, Nat.reduceLeDiff, reduceIte, reduceCtorEq, Nat.reduceBEq, tysA, i64, reV_eq re, iD, bD, cellO, bV]
  refine call_pure hcl rfl rfl ?_
  simp only [vsA, vsB, vsC, appendWp, Nat.reduceShiftRight, Nat.reduceMod, Nat.reduceLT, Nat.reduceMul, Nat.reduceSub, Int.reduceToNat, Int.reduceNeg, Int.reduceLT, Int.reduceLE, Int.reduceEq, Nat.reduceEqDiff, Nat.reduceAdd, Nat.reduceLeDiff, reduceIte, reduceCtorEq, Nat.reduceBEq, tysA, i64, bV]
  refine loop_rule (fun n e s => ∃ i : Nat, n = re.kids.length - i ∧ i ≤ re.kids.length ∧ e 1 = .rf 0 0 0 0 ∧ e 2 = .rf 1 0 0 0 ∧ e 3 = .rf 2 0 0 0 ∧ e 4 = .rf 3 0 0 0 ∧ e 24 = .d (.sl (re.kids.map Re.cells)) ∧ e 25 = i64 re.kids.length ∧ e 26 = i64 i ∧
      ((i = 0 ∧ s = [cellO 61, cloneO re (.d (.sl (re.kids.map Re.cells))), zeroO, cloneO re (.fu [])]) ∨
       ∃ g X, objOk 6 X = true ∧ s = [cellO 61, cloneO re (.d (.sl (re.kids.map Re.cells))), zeroO, cloneO re (.so 5 g 0 i), X, arrO g ((re.kids.take i).map Re.exp)]))
    ⟨_, _, _, Cln.refl, 0, rfl, by omega, rfl, rfl, rfl, rfl, rfl, rfl, rfl, .inl ⟨rfl, rfl⟩⟩ ?_
  rintro n e s ⟨i, rfl, hi, h1, h2, h3, h4, h24, h25, h26, hacc⟩
  rcases Nat.lt_or_ge i re.kids.length with hlt | hge
  · obtain ⟨k, hk⟩ : ∃ k, re.kids[i]? = some k := ⟨_, List.getElem?_eq_getElem hlt⟩
    have hm := List.mem_of_getElem? hk
    have htk : (re.kids.take (i + 1)).map Re.exp = (re.kids.take i).map Re.exp ++ [k.exp] := by rw [take_get hk]; simp
    rcases hacc with ⟨rfl, rfl⟩ | ⟨g, X, hX, rfl⟩
    · simp only [vsA, vsB, vsC, appendWp, Nat.reduceShiftRight, Nat.reduceMod, Nat.reduceLT, Nat.reduceMul, Nat.reduceSub, Int.reduceToNat, Int.reduceNeg, Int.reduceLT, Int.reduceLE, Int.reduceEq, Nat.reduceEqDiff, Nat.reduceAdd, Nat.reduceLeDiff, reduceIte, reduceCtorEq, Nat.reduceBEq, tysA, h1, h2, h3, h4, h24, h25, h26, i64, bV, hlt, hk, cloneO, zeroO, cellO]
      refine draw_c mix [6, 8] [(2, [0], []), (4, [0], [0])] (by rfl) ?_
      simp only [vsA, vsB, vsC, appendWp, Nat.reduceShiftRight, Nat.reduceMod, Nat.reduceLT, Nat.reduceMul, Nat.reduceSub, Int.reduceToNat, Int.reduceNeg, Int.reduceLT, Int.reduceLE, Int.reduceEq, Nat.reduceEqDiff, Nat.reduceAdd, Nat.reduceLeDiff, reduceIte, reduceCtorEq, Nat.reduceBEq, tysA, h1, h2, h3, h4, h24, h25, h26, i64, bV]
      refine callF_one (ih k hm) (by simp [renV, renV_reV]) (by simp [refsV, refsV.go, reV_eq, i64, bV, reEl]) rfl rfl rfl (renV_reV _ _) ?_
      simp only [vsA, vsB, vsC, appendWp, Nat.reduceShiftRight, Nat.reduceMod, Nat.reduceLT, Nat.reduceMul, Nat.reduceSub, Int.reduceToNat, Int.reduceNeg, Int.reduceLT, Int.reduceLE, Int.reduceEq, Nat.reduceEqDiff, Nat.reduceAdd, Nat.reduceLeDiff, reduceIte, reduceCtorEq, Nat.reduceBEq, tysA, h1, h2, h3, h4, h24, h25, h26, i64, bV]
      refine ⟨fun x hx => by rw [List.mem_singleton.1 hx]; simp [Re.cells_len], by simp, re.kids.length - 1, _, _, by omega, Cln.refl, 1, rfl, by omega, ?_, ?_, ?_, ?_, ?_, ?_, ?_, .inr ⟨0, _, ?_, by rw [htk]; rfl⟩⟩ <;> (try simp only [keepE_app, List.contains_cons, List.contains_nil, Nat.reduceBEq, Bool.or_false, Bool.false_or, Bool.or_true, Bool.true_or, updE, trimE_upd, trimE_trim, trimE_app, Nat.reduceShiftRight, Nat.reduceMod, Nat.reduceEqDiff, if_true, if_false, reduceIte])
      · exact h1
      · exact h2
      · exact h3
      · exact h4
      · exact h24
      · exact h25
      · rw [w64 _ (by omega)]; rfl
      · simp [refsV]
    · simp only [vsA, vsB, vsC, appendWp, Nat.reduceShiftRight, Nat.reduceMod, Nat.reduceLT, Nat.reduceMul, Nat.reduceSub, Int.reduceToNat, Int.reduceNeg, Int.reduceLT, Int.reduceLE, Int.reduceEq, Nat.reduceEqDiff, Nat.reduceAdd, Nat.reduceLeDiff, reduceIte, reduceCtorEq, Nat.reduceBEq, tysA, h1, h2, h3, h4, h24, h25, h26, i64, bV, hlt, hk, cloneO, zeroO, cellO, arrO]
      refine draw_c mix [6, 8] [(2, [0], []), (4, [0], [0])] (by rfl) ?_
      simp only [vsA, vsB, vsC, appendWp, Nat.reduceShiftRight, Nat.reduceMod, Nat.reduceLT, Nat.reduceMul, Nat.reduceSub, Int.reduceToNat, Int.reduceNeg, Int.reduceLT, Int.reduceLE, Int.reduceEq, Nat.reduceEqDiff, Nat.reduceAdd, Nat.reduceLeDiff, reduceIte, reduceCtorEq, Nat.reduceBEq, tysA, h1, h2, h3, h4, h24, h25, h26, i64, bV]
      refine callF_one (ih k hm) (by simp [renV, renV_reV]) (by simp [refsV, refsV.go, reV_eq, i64, bV, reEl]) rfl rfl rfl (renV_reV _ _) ?_
      simp only [vsA, vsB, vsC, appendWp, Nat.reduceShiftRight, Nat.reduceMod, Nat.reduceLT, Nat.reduceMul, Nat.reduceSub, Int.reduceToNat, Int.reduceNeg, Int.reduceLT, Int.reduceLE, Int.reduceEq, Nat.reduceEqDiff, Nat.reduceAdd, Nat.reduceLeDiff, reduceIte, reduceCtorEq, Nat.reduceBEq, tysA, h1, h2, h3, h4, h24, h25, h26, i64, bV]
      have hcut : (((((re.kids.take i).map Re.exp).map Re.cells).map fun c => c.map V.d).take i) = (((re.kids.take i).map Re.exp).map Re.cells).map fun c => c.map V.d := List.take_of_length_le (by simp; omega)
      rw [hcut]
      refine ⟨fun x hx => by rw [List.mem_singleton.1 hx]; simp [Re.cells_len], ⟨by simp; omega, by omega⟩, re.kids.length - (i + 1), _, _, by omega, Cln.cut 6 (by omega) rfl ?_ [1, 2, 3, 4, 24, 25, 26] ?_, i + 1, rfl, by omega, ?_, ?_, ?_, ?_, ?_, ?_, ?_, .inr ⟨g + 1, X, hX, ?_⟩⟩ <;> (try simp only [keepE_app, List.contains_cons, List.contains_nil, Nat.reduceBEq, Bool.or_false, Bool.false_or, Bool.or_true, Bool.true_or, updE, trimE_upd, trimE_trim, trimE_app, Nat.reduceShiftRight, Nat.reduceMod, Nat.reduceEqDiff, if_true, if_false, reduceIte])
      · simp only [objOk] at hX
        simp [objOk, refsV, refsV.go, hX, cellO]
        intro x hx y hy
        obtain ⟨r, _, rfl⟩ := List.mem_map.1 (List.mem_of_mem_take hx)
        obtain ⟨d, _, rfl⟩ := List.mem_map.1 hy
        rfl
      · simp [updE, trimE_app, refsV, h1, h2, h3, h4, h24, h25, i64]
      · exact h1
      · exact h2
      · exact h3
      · exact h4
      · exact h24
      · exact h25
      · rw [w64 _ (by omega)]; rfl
      · rw [htk]
        simp [cellO]
  have hie : i = re.kids.length := by omega
  subst hie
  by_cases o4 : re.op = 4
  · cases hkp : re.kept with
    | true =>
      rw [Re.exp_keep (.inr hkp)]
      rcases hacc with ⟨hz, rfl⟩ | ⟨g, X, hX, rfl⟩
      · simp only [vsA, vsB, vsC, appendWp, Nat.reduceShiftRight, Nat.reduceMod, Nat.reduceLT, Nat.reduceMul, Nat.reduceSub, Int.reduceToNat, Int.reduceNeg, Int.reduceLT, Int.reduceLE, Int.reduceEq, Nat.reduceEqDiff, Nat.reduceAdd, Nat.reduceLeDiff, reduceIte, reduceCtorEq, Nat.reduceBEq, tysA, h1, h2, h3, h4, h24, h25, h26, i64, bV, cloneO, zeroO, cellO, arrO, Nat.lt_irrefl, o4]
        refine call_give [1] rfl ?_
        refine call_pure (o4 ▸ hkc) rfl rfl ?_
        simp only [vsA, vsB, vsC, appendWp, Nat.reduceShiftRight, Nat.reduceMod, Nat.reduceLT, Nat.reduceMul, Nat.reduceSub, Int.reduceToNat, Int.reduceNeg, Int.reduceLT, Int.reduceLE, Int.reduceEq, Nat.reduceEqDiff, Nat.reduceAdd, Nat.reduceLeDiff, reduceIte, reduceCtorEq, Nat.reduceBEq, tysA, h1, h2, h3, h4, h24, h25, h26, i64, bV, cloneO, zeroO, cellO, arrO, hkp, killO, kill1]
        have hk0 : re.kids = [] := List.eq_nil_of_length_eq_zero hz
        rw [reV_eq, show re.out.op = 4 from o4, show re.out.kids = re.kids.map Re.exp from rfl, hk0]
        rfl
      · simp only [vsA, vsB, vsC, appendWp, Nat.reduceShiftRight, Nat.reduceMod, Nat.reduceLT, Nat.reduceMul, Nat.reduceSub, Int.reduceToNat, Int.reduceNeg, Int.reduceLT, Int.reduceLE, Int.reduceEq, Nat.reduceEqDiff, Nat.reduceAdd, Nat.reduceLeDiff, reduceIte, reduceCtorEq, Nat.reduceBEq, tysA, h1, h2, h3, h4, h24, h25, h26, i64, bV, cloneO, zeroO, cellO, arrO, Nat.lt_irrefl, o4]
        refine call_give [1] rfl ?_
        refine call_pure (o4 ▸ hkc) rfl rfl ?_
        simp only [vsA, vsB, vsC, appendWp, Nat.reduceShiftRight, Nat.reduceMod, Nat.reduceLT, Nat.reduceMul, Nat.reduceSub, Int.reduceToNat, Int.reduceNeg, Int.reduceLT, Int.reduceLE, Int.reduceEq, Nat.reduceEqDiff, Nat.reduceAdd, Nat.reduceLeDiff, reduceIte, reduceCtorEq, Nat.reduceBEq, tysA, h1, h2, h3, h4, h24, h25, h26, i64, bV, cloneO, zeroO, cellO, arrO, hkp, killO, kill1]
        rw [List.take_length, frz_data 7 1 _ _ _ (by simp), if_pos (by omega), reV_eq, show re.out.op = 4 from o4]
        rfl
    | false =>
      obtain ⟨hne, n0, n1, n2, n3⟩ := hn o4 hkp
      obtain ⟨k, l, hkl⟩ := List.exists_cons_of_ne_nil hne
      rw [Re.exp_un o4 hkp hkl]
      have hun := unroll_ok re k.exp (hx k (by rw [hkl]; simp)) n0 n1 n2 n3
      rw [reEl, Re.cells_eq re] at hun
      simp only [iD, bD] at hun
      have hp0 : 0 < re.kids.length := by rw [hkl]; simp
      have hp0' : (0 : Int) < (re.kids.length : Int) := by omega
      have hk0 : (re.kids.take re.kids.length)[0]? = some k := by rw [List.take_length, hkl]; rfl
      rcases hacc with ⟨hz, rfl⟩ | ⟨g, X, hX, rfl⟩
      · omega
      · simp only [vsA, vsB, vsC, appendWp, Nat.reduceShiftRight, Nat.reduceMod, Nat.reduceLT, Nat.reduceMul, Nat.reduceSub, Int.reduceToNat, Int.reduceNeg, Int.reduceLT, Int.reduceLE, Int.reduceEq, Nat.reduceEqDiff, Nat.reduceAdd, Nat.reduceLeDiff, reduceIte, reduceCtorEq, Nat.reduceBEq, tysA, h1, h2, h3, h4, h24, h25, h26, i64, bV, cloneO, zeroO, cellO, arrO, Nat.lt_irrefl, o4]
        refine call_give [1] rfl ?_
        refine call_pure (o4 ▸ hkc) rfl rfl ?_
        simp only [vsA, vsB, vsC, appendWp, Nat.reduceShiftRight, Nat.reduceMod, Nat.reduceLT, Nat.reduceMul, Nat.reduceSub, Int.reduceToNat, Int.reduceNeg, Int.reduceLT, Int.reduceLE, Int.reduceEq, Nat.reduceEqDiff, Nat.reduceAdd, Nat.reduceLeDiff, reduceIte, reduceCtorEq, Nat.reduceBEq, tysA, h1, h2, h3, h4, h24, h25, h26, i64, bV, cloneO, zeroO, cellO, arrO, hkp, killO, kill1, hp0, hp0', hk0]
        refine call_give [1] ?_ (call_pure (o4 ▸ hun) (by simp [refsV, refsV.go, reV_eq]) (by simp [refsV, refsV.go, reV_eq, i64, bV, reEl]) ?_)
        · rw [reV_eq k.exp]; rfl
        simp only [vsA, vsB, vsC, appendWp, Nat.reduceShiftRight, Nat.reduceMod, Nat.reduceLT, Nat.reduceMul, Nat.reduceSub, Int.reduceToNat, Int.reduceNeg, Int.reduceLT, Int.reduceLE, Int.reduceEq, Nat.reduceEqDiff, Nat.reduceAdd, Nat.reduceLeDiff, reduceIte, reduceCtorEq, Nat.reduceBEq, tysA, h1, h2, h3, h4, h24, h25, h26, i64, bV, cloneO, zeroO, cellO, arrO, killO, kill1]
        all_goals first | exact ⟨rfl, rfl⟩ | exact ⟨rfl, trivial⟩ | rfl | trivial | (rw [reV_eq]; rfl)
  · rw [Re.exp_keep (.inl o4)]
    rcases hacc with ⟨hz, rfl⟩ | ⟨g, X, hX, rfl⟩
    · simp only [vsA, vsB, vsC, appendWp, Nat.reduceShiftRight, Nat.reduceMod, Nat.reduceLT, Nat.reduceMul, Nat.reduceSub, Int.reduceToNat, Int.reduceNeg, Int.reduceLT, Int.reduceLE, Int.reduceEq, Nat.reduceEqDiff, Nat.reduceAdd, Nat.reduceLeDiff, reduceIte, reduceCtorEq, Nat.reduceBEq, tysA, h1, h2, h3, h4, h24, h25, h26, i64, bV, cloneO, zeroO, cellO, arrO, Nat.lt_irrefl, o4]
      have hk0 : re.kids = [] := List.eq_nil_of_length_eq_zero hz
      rw [Re.out, hk0, reV_eq]
      rfl
    · simp only [vsA, vsB, vsC, appendWp, Nat.reduceShiftRight, Nat.reduceMod, Nat.reduceLT, Nat.reduceMul, Nat.reduceSub, Int.reduceToNat, Int.reduceNeg, Int.reduceLT, Int.reduceLE, Int.reduceEq, Nat.reduceEqDiff, Nat.reduceAdd, Nat.reduceLeDiff, reduceIte, reduceCtorEq, Nat.reduceBEq, tysA, h1, h2, h3, h4, h24, h25, h26, i64, bV, cloneO, zeroO, cellO, arrO, Nat.lt_irrefl, o4]
      rw [List.take_length, frz_data 7 1 _ _ _ (by simp), if_pos (by omega), reV_eq]
      rfl

end Go.Proofs.Ytafbdphblilenaa

set_option linter.unusedSimpArgs false
set_option linter.unusedVariables false
namespace Go.Proofs.Ytafbdphblilenaa
open Go.VL

mutual
def Re.every (p : Re → Bool) : Re → Bool
  | .mk op set kids mn mx mode n neg => p (.mk op set kids mn mx mode n neg) && Re.everyL p kids
def Re.everyL (p : Re → Bool) : List Re → Bool
  | [] => true
  | k :: l => Re.every p k && Re.everyL p l
end

theorem Re.everyL_all (p : Re → Bool) : ∀ l : List Re, Re.everyL p l = l.all (Re.every p)
  | [] => rfl
  | k :: l => by simp [Re.everyL, Re.everyL_all p l]

theorem Re.every_iff {p : Re → Bool} (re : Re) : re.every p = true ↔ p re = true ∧ ∀ k ∈ re.kids, k.every p = true := by
  cases re with
  | mk op set kids mn mx mode n neg => simp only [Re.every, Bool.and_eq_true, Re.everyL_all, List.all_eq_true, Re.kids]

/-- What unrolling asks of each node. -/
def exq (re : Re) : Bool := decide (re.set.length ≤ 1000000000 ∧ re.kids.length ≤ 1000000000 ∧ (re.op = 4 → 0 ≤ re.mn ∧ re.mn ≤ 1000000 ∧ -1 ≤ re.mx ∧ re.mx ≤ 1000000))

theorem fine_of_exq (re : Re) (h : re.every exq = true) : re.fine = true := by
  revert h
  refine Re.ind (Q := fun re => re.every exq = true → re.fine = true) (fun re ih h => ?_) re
  obtain ⟨h1, h2⟩ := (Re.every_iff re).1 h
  have h1 := of_decide_eq_true h1
  exact (Re.fine_iff re).2 ⟨h1.1, h1.2.1, fun k hk => ih k hk (h2 k hk)⟩

theorem rept_fine {x : Re} (h : x.fine = true) (most mode : Int) : (rept x most mode).fine = true := by
  rw [Re.fine_iff]
  refine ⟨by simp [rept, Re.set], by simp [rept, Re.kids], fun k hk => ?_⟩
  have : k = x := by simpa [rept, Re.kids] using hk
  rw [this]; exact h

theorem join_fine {l : List Re} (h : ∀ x ∈ l, x.fine = true) (hl : l.length ≤ 1000000000) : (joinR l).fine = true := by
  unfold joinR
  split
  · exact h _ (by simp)
  · rw [Re.fine_iff]
    exact ⟨by simp [Re.set], hl, h⟩

theorem rest_fine {x : Re} (h : x.fine = true) (mode : Int) : ∀ j, (restR mode x j).fine = true
  | 0 => rept_fine h _ _
  | j + 1 => rept_fine (join_fine (fun y hy => by
      rcases List.mem_cons.1 hy with rfl | hy
      · exact h
      · rw [List.mem_singleton.1 hy]; exact rest_fine h mode j) (by simp)) _ _

theorem unroll_fine {re x : Re} (h : x.fine = true) (h0 : 0 ≤ re.mn) (h1 : re.mn ≤ 1000000) : (unrollR re x).fine = true := by
  unfold unrollR
  have hn : re.mn.toNat ≤ 1000000 := by omega
  refine join_fine (fun y hy => ?_) ?_
  · rcases List.mem_append.1 hy with hy | hy
    · rw [(List.mem_replicate.1 hy).2]; exact h
    · split at hy
      · rw [List.mem_singleton.1 hy]; exact rept_fine h _ _
      · split at hy
        · rw [List.mem_singleton.1 hy]; exact rest_fine h _ _
        · cases hy
  · rw [List.length_append, List.length_replicate]
    split
    · simp; omega
    · split <;> simp <;> omega

theorem exa_spec {re : Re} (h : re.exa = true) : (re.op = 4 → re.kids.length = 1) ∧ ∀ k ∈ re.kids, k.exa = true := by
  rw [Re.exa_eq, Bool.and_eq_true, List.all_eq_true] at h
  refine ⟨fun o => ?_, h.2⟩
  have h1 := h.1
  simp only [exaNode, o] at h1
  by_cases hl : re.kids.length = 1
  · exact hl
  · simp [hl] at h1

theorem exp_both (re : Re) (h : re.every exq = true) (ha : re.exa = true) : re.exp.fine = true ∧ ExpOK re := by
  revert h ha
  refine Re.ind (Q := fun re => re.every exq = true → re.exa = true → re.exp.fine = true ∧ ExpOK re) (fun re ih h ha => ?_) re
  have hf := fine_of_exq re h
  obtain ⟨h1, h2⟩ := (Re.every_iff re).1 h
  have h1 := of_decide_eq_true h1
  obtain ⟨a1, a2⟩ := exa_spec ha
  have hx : ∀ k ∈ re.kids, k.exp.fine = true := fun k hk => (ih k hk (h2 k hk) (a2 k hk)).1
  have hn : exNode re := fun o _ => ⟨fun he => (by have := a1 o; rw [he] at this; cases this), h1.2.2 o⟩
  refine ⟨?_, exp_step re hf (fun k hk => (ih k hk (h2 k hk) (a2 k hk)).2) hx hn⟩
  by_cases hk : re.op = 4 ∧ re.kept = false
  · obtain ⟨hne, n0, n1, _, _⟩ := hn hk.1 hk.2
    obtain ⟨k, l, hkl⟩ := List.exists_cons_of_ne_nil hne
    rw [Re.exp_un hk.1 hk.2 hkl]
    exact unroll_fine (hx k (by rw [hkl]; simp)) n0 n1
  · rw [Re.exp_keep (by
      by_cases o : re.op = 4
      · right; cases hkk : re.kept with
        | true => rfl
        | false => exact absurd ⟨o, hkk⟩ hk
      · exact .inl o), Re.fine_iff]
    refine ⟨h1.1, by simpa [Re.out, Re.kids] using h1.2.1, fun y hy => ?_⟩
    obtain ⟨k, hk, rfl⟩ := List.mem_map.1 (show y ∈ re.kids.map Re.exp from hy)
    exact hx k hk

def zeroR : Re := .mk 0 [] [] 0 0 0 0 false

def expandR (re : Re) : Re × Int := if re.exa = false then (zeroR, 10) else if 4096 < re.esz then (zeroR, 4) else (re.exp, 0)

set_option maxRecDepth 100000 in
set_option maxHeartbeats 8000000 in
theorem expand_ok (re : Re) (h : re.every exq = true) : PureOK Try.prog 16 [reV re] (.tu [reV (expandR re).1, i64 (expandR re).2]) := by
  have hf := fine_of_exq re h
  have hea := expandable_ok re hf
  have hes := expandedSize_ok re hf
  rw [reEl, Re.cells_eq re] at hea hes
  simp only [iD, bD, bV, i64] at hea hes
  refine fn_ok Try.func16 rfl Try.ntmps16 Try.results16 rfl 0 31 (by simp) (by simp) ?_
  simp only [vsA, vsB, vsC, appendWp, Nat.reduceShiftRight, Nat.reduceMod, Nat.reduceLT, Nat.reduceMul, Nat.reduceSub, Int.reduceToNat, Int.reduceNeg, Int.reduceLT, Int.reduceLE, Int.reduceEq, Nat.reduceEqDiff, Nat.reduceAdd, Nat.reduceLeDiff, reduceIte, reduceCtorEq, Nat.reduceBEq, tysA, i64, reV_eq re, iD, bD]
  refine call_give [0] rfl ?_
  refine call_pure hea rfl rfl ?_
  cases hx : re.exa with
  | false =>
    simp only [vsA, vsB, vsC, appendWp, Nat.reduceShiftRight, Nat.reduceMod, Nat.reduceLT, Nat.reduceMul, Nat.reduceSub, Int.reduceToNat, Int.reduceNeg, Int.reduceLT, Int.reduceLE, Int.reduceEq, Nat.reduceEqDiff, Nat.reduceAdd, Nat.reduceLeDiff, reduceIte, reduceCtorEq, Nat.reduceBEq, tysA, hx, killO, kill1, i64]
    rw [expandR, if_pos hx, zeroR, reV_eq]
    rfl
  | true =>
    have hx' : ¬ re.exa = false := by rw [hx]; decide
    obtain ⟨_, hok⟩ := exp_both re h hx
    unfold ExpOK at hok
    rw [reV_eq re] at hok
    simp only [iD, bD] at hok
    simp only [vsA, vsB, vsC, appendWp, Nat.reduceShiftRight, Nat.reduceMod, Nat.reduceLT, Nat.reduceMul, Nat.reduceSub, Int.reduceToNat, Int.reduceNeg, Int.reduceLT, Int.reduceLE, Int.reduceEq, Nat.reduceEqDiff, Nat.reduceAdd, Nat.reduceLeDiff, reduceIte, reduceCtorEq, Nat.reduceBEq, tysA, hx, killO, kill1, i64]
    refine call_give [0] rfl ?_
    refine call_pure hes rfl rfl ?_
    by_cases hz : 4096 < re.esz
    · simp only [vsA, vsB, vsC, appendWp, Nat.reduceShiftRight, Nat.reduceMod, Nat.reduceLT, Nat.reduceMul, Nat.reduceSub, Int.reduceToNat, Int.reduceNeg, Int.reduceLT, Int.reduceLE, Int.reduceEq, Nat.reduceEqDiff, Nat.reduceAdd, Nat.reduceLeDiff, reduceIte, reduceCtorEq, Nat.reduceBEq, tysA, hx, killO, kill1, i64, hz]
      rw [expandR, if_neg hx', if_pos hz, zeroR, reV_eq]
      rfl
    · simp only [vsA, vsB, vsC, appendWp, Nat.reduceShiftRight, Nat.reduceMod, Nat.reduceLT, Nat.reduceMul, Nat.reduceSub, Int.reduceToNat, Int.reduceNeg, Int.reduceLT, Int.reduceLE, Int.reduceEq, Nat.reduceEqDiff, Nat.reduceAdd, Nat.reduceLeDiff, reduceIte, reduceCtorEq, Nat.reduceBEq, tysA, hx, killO, kill1, i64, hz]
      rw [expandR, if_neg hx', if_neg hz]
      refine call_at (r' := reV re.exp) 2 hok rfl rfl rfl rfl (renV_reV _ _) ?_
      simp only [vsA, vsB, vsC, appendWp, Nat.reduceShiftRight, Nat.reduceMod, Nat.reduceLT, Nat.reduceMul, Nat.reduceSub, Int.reduceToNat, Int.reduceNeg, Int.reduceLT, Int.reduceLE, Int.reduceEq, Nat.reduceEqDiff, Nat.reduceAdd, Nat.reduceLeDiff, reduceIte, reduceCtorEq, Nat.reduceBEq, tysA, killO, kill1, renO, renV, renV.go, cellO, i64]
      simp only [vsA, vsB, vsC, appendWp, Nat.reduceShiftRight, Nat.reduceMod, Nat.reduceLT, Nat.reduceMul, Nat.reduceSub, Int.reduceToNat, Int.reduceNeg, Int.reduceLT, Int.reduceLE, Int.reduceEq, Nat.reduceEqDiff, Nat.reduceAdd, Nat.reduceLeDiff, reduceIte, reduceCtorEq, Nat.reduceBEq, tysA, reV_eq re.exp, iD, bD]
      all_goals first | exact ⟨rfl, rfl⟩ | exact ⟨rfl, trivial⟩ | rfl | trivial | (rw [reV_eq]; rfl)

end Go.Proofs.Ytafbdphblilenaa

set_option linter.unusedSimpArgs false
set_option linter.unusedVariables false
namespace Go.Proofs.Ytafbdphblilenaa
open Go.VL

def cntO (c : Int) : VL.Obj := ⟨0, true, 1, [[i64 c]]⟩
def cell2O (f : FuncId) : VL.Obj := ⟨0, true, 1, [[.cl (.func f) [] [.rf 0 0 0 0, .rf 1 0 0 0]]]⟩

def SizeOK (re : Re) : Prop := ∀ c : Int, 0 ≤ c → c + re.size ≤ 1000000000 →
  callWp Try.prog 80 [reEl re, .rf 0 0 0 0, .rf 1 0 0 0] [cntO c, cell2O 80] fun v s => v = .tu [] ∧ s = [cntO (c + re.size), cell2O 80]

set_option maxRecDepth 100000 in
set_option maxHeartbeats 8000000 in
theorem size_rec (re : Re) : SizeOK re := by
  refine Re.ind (Q := SizeOK) (fun re ih => ?_) re
  intro c hc hs
  have hlen := Re.len_le re.kids
  have hsz := Re.size_eq re
  have w1 : IntKind.i64.wrap (c + 1) = c + 1 := w64 _ (by omega)
  refine fn_ok Try.func80 rfl Try.ntmps80 Try.results80 rfl 2 6167 (by simp) (by simp) ?_
  simp only [vsA, vsB, vsC, appendWp, Nat.reduceShiftRight, Nat.reduceMod, Nat.reduceLT, Nat.reduceMul, Nat.reduceSub, Int.reduceToNat, Int.reduceNeg, Int.reduceLT, Int.reduceLE, Int.reduceEq, Nat.reduceEqDiff, Nat.reduceAdd, Nat.reduceLeDiff, reduceIte, reduceCtorEq, Nat.reduceBEq, tysA, i64, cntO, cell2O, reEl, Re.cells_eq re, iD, bD, w1]
  refine loop_rule (fun n e s => ∃ i : Nat, n = re.kids.length - i ∧ i ≤ re.kids.length ∧ e 0 = reEl re ∧ e 1 = .rf 0 0 0 0 ∧ e 2 = .rf 1 0 0 0 ∧ e 11 = i64 re.kids.length ∧ e 12 = i64 i ∧ s = [cntO (c + 1 + (Re.sizeL (re.kids.take i) : Nat)), cell2O 80])
    ⟨_, _, _, Cln.refl, 0, rfl, by omega, by simp [reEl, Re.cells_eq re, iD, bD]; rfl, rfl, rfl, rfl, rfl, by simp [Re.sizeL, cntO, cell2O, i64]⟩ ?_
  rintro n e s ⟨i, rfl, hi, h0, h1, h2, h11, h12, rfl⟩
  rcases Nat.lt_or_ge i re.kids.length with hlt | hge
  · obtain ⟨k, hk⟩ : ∃ k, re.kids[i]? = some k := ⟨_, List.getElem?_eq_getElem hlt⟩
    have hm := List.mem_of_getElem? hk
    have hsum : (Re.sizeL (re.kids.take (i + 1)) : Nat) = Re.sizeL (re.kids.take i) + k.size := by rw [take_get hk, Re.sizeL_append]; simp [Re.sizeL]
    have hle := Re.sizeL_take re.kids (i + 1)
    have hk0 := ih k hm (c + 1 + (Re.sizeL (re.kids.take i) : Nat)) (by omega) (by omega)
    simp only [vsA, vsB, vsC, appendWp, Nat.reduceShiftRight, Nat.reduceMod, Nat.reduceLT, Nat.reduceMul, Nat.reduceSub, Int.reduceToNat, Int.reduceNeg, Int.reduceLT, Int.reduceLE, Int.reduceEq, Nat.reduceEqDiff, Nat.reduceAdd, Nat.reduceLeDiff, reduceIte, reduceCtorEq, Nat.reduceBEq, tysA, i64, cntO, cell2O, reEl, Re.cells_eq re, iD, bD, h0, h1, h2, h11, h12, hlt]
    refine draw_c mix [] [(0, [1], []), (7, [0, 1], [0, 1])] (by rfl) ?_
    simp only [vsA, vsB, vsC, appendWp, Nat.reduceShiftRight, Nat.reduceMod, Nat.reduceLT, Nat.reduceMul, Nat.reduceSub, Int.reduceToNat, Int.reduceNeg, Int.reduceLT, Int.reduceLE, Int.reduceEq, Nat.reduceEqDiff, Nat.reduceAdd, Nat.reduceLeDiff, reduceIte, reduceCtorEq, Nat.reduceBEq, tysA, i64, cntO, cell2O, reEl, Re.cells_eq re, iD, bD, h0, h1, h2, h11, h12, hlt, hk]
    refine callF_two hk0 (by simp [renV, reEl]) (by simp [refsV, refsV.go, reEl]) rfl rfl rfl rfl rfl rfl rfl ?_
    simp only [vsA, vsB, vsC, appendWp, Nat.reduceShiftRight, Nat.reduceMod, Nat.reduceLT, Nat.reduceMul, Nat.reduceSub, Int.reduceToNat, Int.reduceNeg, Int.reduceLT, Int.reduceLE, Int.reduceEq, Nat.reduceEqDiff, Nat.reduceAdd, Nat.reduceLeDiff, reduceIte, reduceCtorEq, Nat.reduceBEq, tysA, i64, cntO, cell2O, reEl, Re.cells_eq re, iD, bD, h0, h1, h2, h11, h12]
    refine ⟨re.kids.length - (i + 1), _, _, by omega, Cln.refl, i + 1, rfl, hlt, ?_, ?_, ?_, ?_, ?_, ?_⟩ <;> (try simp only [keepE_app, List.contains_cons, List.contains_nil, Nat.reduceBEq, Bool.or_false, Bool.false_or, Bool.or_true, Bool.true_or, updE, trimE_upd, trimE_trim, trimE_app, Nat.reduceShiftRight, Nat.reduceMod, Nat.reduceEqDiff, if_true, if_false, reduceIte])
    · simpa [reEl, Re.cells_eq re, iD, bD] using h0
    · exact h1
    · exact h2
    · exact h11
    · rw [w64 _ (by omega)]; rfl
    · rw [hsum]; simp [Int.add_assoc]
  · have hie : i = re.kids.length := by omega
    subst hie
    simp only [vsA, vsB, vsC, appendWp, Nat.reduceShiftRight, Nat.reduceMod, Nat.reduceLT, Nat.reduceMul, Nat.reduceSub, Int.reduceToNat, Int.reduceNeg, Int.reduceLT, Int.reduceLE, Int.reduceEq, Nat.reduceEqDiff, Nat.reduceAdd, Nat.reduceLeDiff, reduceIte, reduceCtorEq, Nat.reduceBEq, tysA, i64, cntO, cell2O, reEl, Re.cells_eq re, iD, bD, h0, h1, h2, h11, h12, Nat.lt_irrefl, List.take_length]
    rw [hsz]
    simp [Int.add_assoc]

theorem size_ok (re : Re) (hs : re.size ≤ 1000000000) : PureOK Try.prog 40 [reV re] (i64 re.size) := by
  refine fn_ok Try.func40 rfl Try.ntmps40 Try.results40 rfl 0 31 (by simp) (by simp) ?_
  simp only [vsA, vsB, vsC, appendWp, Nat.reduceShiftRight, Nat.reduceMod, Nat.reduceLT, Nat.reduceMul, Nat.reduceSub, Int.reduceToNat, Int.reduceNeg, Int.reduceLT, Int.reduceLE, Int.reduceEq, Nat.reduceEqDiff, Nat.reduceAdd, Nat.reduceLeDiff, reduceIte, reduceCtorEq, Nat.reduceBEq, tysA, i64, reV_eq re, iD, bD]
  refine call_give [0] rfl ?_
  have hz := size_rec re 0 (by omega) (by omega)
  rw [Int.zero_add] at hz
  refine call_at2 (r' := .tu []) 1 2 (by decide) hz (by rw [reEl, Re.cells_eq]; rfl) (by simp [refsV, refsV.go, reEl]) rfl rfl rfl rfl rfl ?_
  simp only [vsA, vsB, vsC, appendWp, Nat.reduceShiftRight, Nat.reduceMod, Nat.reduceLT, Nat.reduceMul, Nat.reduceSub, Int.reduceToNat, Int.reduceNeg, Int.reduceLT, Int.reduceLE, Int.reduceEq, Nat.reduceEqDiff, Nat.reduceAdd, Nat.reduceLeDiff, reduceIte, reduceCtorEq, Nat.reduceBEq, tysA, i64, killO, kill1, renO, renV, renV.go, cntO, cell2O]
  all_goals first | exact ⟨rfl, rfl⟩ | exact ⟨rfl, trivial⟩ | rfl | trivial | (rw [reV_eq]; rfl)

/-! ### Depth -/

mutual
def Re.depth : Re → Int
  | .mk _ _ kids _ _ _ _ _ => Re.depthL kids 0 + 1
def Re.depthL : List Re → Int → Int
  | [], a => a
  | k :: l, a => Re.depthL l (max a k.depth)
end

def maxL (l : List Int) : Int := l.foldl max 0

theorem Re.depthL_eq : ∀ (l : List Re) (a : Int), Re.depthL l a = (l.map Re.depth).foldl max a
  | [], a => by simp [Re.depthL]
  | k :: l, a => by simp [Re.depthL, Re.depthL_eq l]

theorem Re.depth_eq (re : Re) : re.depth = maxL (re.kids.map Re.depth) + 1 := by
  cases re; simp [Re.depth, Re.depthL_eq, Re.kids, maxL]

theorem maxL_snoc (l : List Int) (k : Int) : maxL (l ++ [k]) = max (maxL l) k := by simp [maxL, List.foldl_append]

theorem foldl_max_le {b : Int} : ∀ (l : List Int) (a : Int), a ≤ b → (∀ x ∈ l, x ≤ b) → l.foldl max a ≤ b
  | [], a, h, _ => h
  | x :: l, a, h, hl => foldl_max_le l (max a x) (by have := hl x (by simp); omega) (fun y hy => hl y (by simp [hy]))

theorem le_foldl_max : ∀ (l : List Int) (a : Int), a ≤ l.foldl max a
  | [], a => Int.le_refl _
  | x :: l, a => Int.le_trans (by omega) (le_foldl_max l (max a x))

theorem Re.depth_le (re : Re) : 0 ≤ re.depth ∧ re.depth ≤ re.size := by
  refine Re.ind (Q := fun re => 0 ≤ re.depth ∧ re.depth ≤ re.size) (fun re ih => ?_) re
  rw [Re.depth_eq, Re.size_eq]
  have h1 := le_foldl_max (re.kids.map Re.depth) 0
  have h2 : maxL (re.kids.map Re.depth) ≤ (Re.sizeL re.kids : Nat) := foldl_max_le _ _ (by omega) (fun x hx => by
    obtain ⟨k, hk, rfl⟩ := List.mem_map.1 hx
    have := Re.sizeL_mem hk
    have := (ih k hk).2
    omega)
  unfold maxL at *
  omega

def DepthOK (re : Re) : Prop := callWp Try.prog 84 [reEl re, .rf 0 0 0 0] [cellO 84] fun v s => v = i64 re.depth ∧ s = [cellO 84]

set_option maxRecDepth 100000 in
set_option maxHeartbeats 8000000 in
theorem depth_rec (re : Re) (hs : re.size ≤ 1000000000) : DepthOK re := by
  revert hs
  refine Re.ind (Q := fun re => re.size ≤ 1000000000 → DepthOK re) (fun re ih hs => ?_) re
  have hlen := Re.len_le re.kids
  have hsz := Re.size_eq re
  have hd := Re.depth_le re
  unfold DepthOK
  rw [Re.depth_eq] at hd ⊢
  refine fn_ok Try.func84 rfl Try.ntmps84 Try.results84 rfl 1 3131 (by simp) (by simp) ?_
  simp only [vsA, vsB, vsC, appendWp, Nat.reduceShiftRight, Nat.reduceMod, Nat.reduceLT, Nat.reduceMul, Nat.reduceSub, Int.reduceToNat, Int.reduceNeg, Int.reduceLT, Int.reduceLE, Int.reduceEq, Nat.reduceEqDiff, Nat.reduceAdd, Nat.reduceLeDiff, reduceIte, reduceCtorEq, Nat.reduceBEq, tysA, i64, reEl, Re.cells_eq re, iD, bD, cellO]
  refine loop_rule (fun n e s => ∃ i : Nat, n = re.kids.length - i ∧ i ≤ re.kids.length ∧ e 0 = reEl re ∧ e 1 = .rf 0 0 0 0 ∧ e 4 = i64 (maxL ((re.kids.take i).map Re.depth)) ∧ e 10 = i64 re.kids.length ∧ e 11 = i64 i ∧ s = [cellO 84])
    ⟨_, _, _, Cln.refl, 0, rfl, by omega, by simp [reEl, Re.cells_eq re, iD, bD]; rfl, rfl, rfl, rfl, rfl, rfl⟩ ?_
  rintro n e s ⟨i, rfl, hi, h0, h1, h4, h10, h11, rfl⟩
  rcases Nat.lt_or_ge i re.kids.length with hlt | hge
  · obtain ⟨k, hk⟩ : ∃ k, re.kids[i]? = some k := ⟨_, List.getElem?_eq_getElem hlt⟩
    have hm := List.mem_of_getElem? hk
    have hks := Re.size_kid hm
    simp only [vsA, vsB, vsC, appendWp, Nat.reduceShiftRight, Nat.reduceMod, Nat.reduceLT, Nat.reduceMul, Nat.reduceSub, Int.reduceToNat, Int.reduceNeg, Int.reduceLT, Int.reduceLE, Int.reduceEq, Nat.reduceEqDiff, Nat.reduceAdd, Nat.reduceLeDiff, reduceIte, reduceCtorEq, Nat.reduceBEq, tysA, i64, h0, h1, h4, h10, h11, hlt, cellO]
    refine draw_c mix [] [(1, [0], []), (8, [0], [0])] (by rfl) ?_
    simp only [vsA, vsB, vsC, appendWp, Nat.reduceShiftRight, Nat.reduceMod, Nat.reduceLT, Nat.reduceMul, Nat.reduceSub, Int.reduceToNat, Int.reduceNeg, Int.reduceLT, Int.reduceLE, Int.reduceEq, Nat.reduceEqDiff, Nat.reduceAdd, Nat.reduceLeDiff, reduceIte, reduceCtorEq, Nat.reduceBEq, tysA, i64, h0, h1, h4, h10, h11, hlt, hk, reEl, Re.cells_eq re, iD, bD]
    refine callF_one (ih k hm (by omega)) rfl rfl rfl rfl rfl rfl ?_
    simp only [vsA, vsB, vsC, appendWp, Nat.reduceShiftRight, Nat.reduceMod, Nat.reduceLT, Nat.reduceMul, Nat.reduceSub, Int.reduceToNat, Int.reduceNeg, Int.reduceLT, Int.reduceLE, Int.reduceEq, Nat.reduceEqDiff, Nat.reduceAdd, Nat.reduceLeDiff, reduceIte, reduceCtorEq, Nat.reduceBEq, tysA, i64, h0, h1, h4, h10, h11, cellO]
    refine ⟨re.kids.length - (i + 1), _, _, by omega, Cln.refl, i + 1, rfl, hlt, ?_, ?_, ?_, ?_, ?_, rfl⟩ <;> (try simp only [keepE_app, List.contains_cons, List.contains_nil, Nat.reduceBEq, Bool.or_false, Bool.false_or, Bool.or_true, Bool.true_or, updE, trimE_upd, trimE_trim, trimE_app, Nat.reduceShiftRight, Nat.reduceMod, Nat.reduceEqDiff, if_true, if_false, reduceIte])
    · simpa [reEl, Re.cells_eq re, iD, bD] using h0
    · exact h1
    · rw [take_get hk, List.map_append, List.map_cons, List.map_nil, maxL_snoc]
    · exact h10
    · rw [w64 _ (by omega)]; rfl
  · have hie : i = re.kids.length := by omega
    subst hie
    rw [List.take_length] at h4
    have w1 : IntKind.i64.wrap (maxL (re.kids.map Re.depth) + 1) = maxL (re.kids.map Re.depth) + 1 := w64 _ (by omega)
    simp only [vsA, vsB, vsC, appendWp, Nat.reduceShiftRight, Nat.reduceMod, Nat.reduceLT, Nat.reduceMul, Nat.reduceSub, Int.reduceToNat, Int.reduceNeg, Int.reduceLT, Int.reduceLE, Int.reduceEq, Nat.reduceEqDiff, Nat.reduceAdd, Nat.reduceLeDiff, reduceIte, reduceCtorEq, Nat.reduceBEq, tysA, i64, h0, h1, h4, h10, h11, cellO, Nat.lt_irrefl, w1]
    all_goals first | exact ⟨rfl, rfl⟩ | exact ⟨rfl, trivial⟩ | rfl | trivial | (rw [reV_eq]; rfl)

theorem depth_ok (re : Re) (hs : re.size ≤ 1000000000) : PureOK Try.prog 43 [reV re] (i64 re.depth) := by
  refine fn_ok Try.func43 rfl Try.ntmps43 Try.results43 rfl 0 15 (by simp) (by simp) ?_
  simp only [vsA, vsB, vsC, appendWp, Nat.reduceShiftRight, Nat.reduceMod, Nat.reduceLT, Nat.reduceMul, Nat.reduceSub, Int.reduceToNat, Int.reduceNeg, Int.reduceLT, Int.reduceLE, Int.reduceEq, Nat.reduceEqDiff, Nat.reduceAdd, Nat.reduceLeDiff, reduceIte, reduceCtorEq, Nat.reduceBEq, tysA, i64, reV_eq re, iD, bD]
  refine call_give [0] rfl ?_
  refine call_at (r' := i64 re.depth) 1 (depth_rec re hs) (by rw [reEl, Re.cells_eq]; rfl) rfl rfl rfl rfl ?_
  simp only [vsA, vsB, vsC, appendWp, Nat.reduceShiftRight, Nat.reduceMod, Nat.reduceLT, Nat.reduceMul, Nat.reduceSub, Int.reduceToNat, Int.reduceNeg, Int.reduceLT, Int.reduceLE, Int.reduceEq, Nat.reduceEqDiff, Nat.reduceAdd, Nat.reduceLeDiff, reduceIte, reduceCtorEq, Nat.reduceBEq, tysA, i64, killO, kill1, renO, renV, renV.go, cellO]
  all_goals first | exact ⟨rfl, rfl⟩ | exact ⟨rfl, trivial⟩ | rfl | trivial | (rw [reV_eq]; rfl)

end Go.Proofs.Ytafbdphblilenaa

set_option linter.unusedSimpArgs false
set_option linter.unusedVariables false
namespace Go.Proofs.Ytafbdphblilenaa
open Go.VL

/-- The numbers of a node, in the order of comparison: the first ones. -/
def ordP (re : Re) (l : List (Int × Int)) : List Int := [re.op, re.set.length] ++ l.flatMap fun s => [s.1, s.2]
def ordL (re : Re) : List Int := ordP re re.set ++ [re.mn, re.mx, re.mode, re.n, if re.neg then 1 else 0, re.kids.length]

def boxR (x : Re) : VL.Obj := ⟨0, true, 8, [x.cells.map .d]⟩

def intArr (g : Nat) (l : List Int) : VL.Obj := ⟨g, true, 1, (l.map fun x => [iD x]).map fun c => c.map V.d⟩

theorem ordP_len (re : Re) (l : List (Int × Int)) : (ordP re l).length = 2 + 2 * l.length := by
  simp only [ordP, List.length_append, List.length_cons, List.length_nil]
  induction l with
  | nil => simp
  | cons x l ih => simp only [List.flatMap_cons, List.length_append, List.length_cons, List.length_nil] at ih ⊢; omega

theorem ordP_snoc (re : Re) (l : List (Int × Int)) (x : Int × Int) : ordP re (l ++ [x]) = ordP re l ++ [x.1, x.2] := by
  simp [ordP]

set_option maxRecDepth 100000 in
set_option maxHeartbeats 8000000 in
theorem order_ok (re : Re) (hs : re.set.length ≤ 1000000000) (hk : re.kids.length ≤ 1000000000) : PureOK Try.prog 68 [reV re] (.d (intsD (ordL re))) := by
  refine fn_ok Try.func68 rfl Try.ntmps68 Try.results68 rfl 0 63 (by simp) (by simp) ?_
  cases hng : re.neg
  all_goals
    simp only [vsA, vsB, vsC, appendWp, Nat.reduceShiftRight, Nat.reduceMod, Nat.reduceLT, Nat.reduceMul, Nat.reduceSub, Int.reduceToNat, Int.reduceNeg, Int.reduceLT, Int.reduceLE, Int.reduceEq, Nat.reduceEqDiff, Nat.reduceAdd, Nat.reduceLeDiff, reduceIte, reduceCtorEq, Nat.reduceBEq, tysA, i64, reV_eq re, iD, bD, hng]
    refine loop_rule (fun n e s => ∃ i : Nat, n = re.set.length - i ∧ i ≤ re.set.length ∧ e 1 = .rf 0 0 0 0 ∧ e 3 = i64 (if re.neg then 1 else 0) ∧ e 5 = i64 i ∧
        ((i = 0 ∧ e 4 = .fu [[iD re.op], [iD re.set.length]] ∧ s = [boxR re]) ∨ ∃ g, e 4 = .so 1 g 0 (2 + 2 * i) ∧ s = [boxR re, intArr g (ordP re (re.set.take i))]))
      ⟨_, _, _, Cln.refl, 0, rfl, by omega, rfl, by rw [hng]; rfl, rfl, .inl ⟨rfl, rfl, by rw [boxR, Re.cells_eq]; simp [hng, iD, bD]⟩⟩ ?_
    rintro n e s ⟨i, rfl, hi, h1, h3, h5, hacc⟩
    rcases Nat.lt_or_ge i re.set.length with hlt | hge
    · obtain ⟨k, hk'⟩ : ∃ k, re.set[i]? = some k := ⟨_, List.getElem?_eq_getElem hlt⟩
      have hl := ordP_len re (re.set.take i)
      rw [List.length_take_of_le hi] at hl
      rcases hacc with ⟨rfl, h4, rfl⟩ | ⟨g, h4, rfl⟩
      · simp only [vsA, vsB, vsC, appendWp, Nat.reduceShiftRight, Nat.reduceMod, Nat.reduceLT, Nat.reduceMul, Nat.reduceSub, Int.reduceToNat, Int.reduceNeg, Int.reduceLT, Int.reduceLE, Int.reduceEq, Nat.reduceEqDiff, Nat.reduceAdd, Nat.reduceLeDiff, reduceIte, reduceCtorEq, Nat.reduceBEq, tysA, i64, iD, bD, boxR, Re.cells_eq re, intArr, spanC, h1, h3, h4, h5, hlt, hk']
        refine draw_c mix [14] [] (by rfl) ?_
        simp only [vsA, vsB, vsC, appendWp, Nat.reduceShiftRight, Nat.reduceMod, Nat.reduceLT, Nat.reduceMul, Nat.reduceSub, Int.reduceToNat, Int.reduceNeg, Int.reduceLT, Int.reduceLE, Int.reduceEq, Nat.reduceEqDiff, Nat.reduceAdd, Nat.reduceLeDiff, reduceIte, reduceCtorEq, Nat.reduceBEq, tysA, i64, iD, bD, boxR, Re.cells_eq re, intArr, spanC, h1, h3, h4, h5, hlt, hk']
        refine ⟨by simp, by simp, re.set.length - 1, _, _, by omega, Cln.refl, 1, rfl, by omega, ?_, ?_, ?_, .inr ⟨0, ?_, ?_⟩⟩ <;> (try simp only [keepE_app, List.contains_cons, List.contains_nil, Nat.reduceBEq, Bool.or_false, Bool.false_or, Bool.or_true, Bool.true_or, updE, trimE_upd, trimE_trim, trimE_app, Nat.reduceShiftRight, Nat.reduceMod, Nat.reduceEqDiff, if_true, if_false, reduceIte])
        · exact h1
        · exact h3
        · rw [w64 _ (by omega)]; rfl
        · rw [take_get hk', ordP_snoc]; simp [ordP]
      · simp only [vsA, vsB, vsC, appendWp, Nat.reduceShiftRight, Nat.reduceMod, Nat.reduceLT, Nat.reduceMul, Nat.reduceSub, Int.reduceToNat, Int.reduceNeg, Int.reduceLT, Int.reduceLE, Int.reduceEq, Nat.reduceEqDiff, Nat.reduceAdd, Nat.reduceLeDiff, reduceIte, reduceCtorEq, Nat.reduceBEq, tysA, i64, iD, bD, boxR, Re.cells_eq re, intArr, spanC, h1, h3, h4, h5, hlt, hk']
        refine draw_c mix [14] [] (by rfl) ?_
        simp only [vsA, vsB, vsC, appendWp, Nat.reduceShiftRight, Nat.reduceMod, Nat.reduceLT, Nat.reduceMul, Nat.reduceSub, Int.reduceToNat, Int.reduceNeg, Int.reduceLT, Int.reduceLE, Int.reduceEq, Nat.reduceEqDiff, Nat.reduceAdd, Nat.reduceLeDiff, reduceIte, reduceCtorEq, Nat.reduceBEq, tysA, i64, iD, bD, boxR, Re.cells_eq re, intArr, spanC, h1, h3, h4, h5, hlt, hk']
        have hcut : ((((ordP re (re.set.take i)).map fun x => [D.sc (Value.int .i64 x)]).map fun c => c.map V.d).take (2 + 2 * i)) = (((ordP re (re.set.take i)).map fun x => [D.sc (Value.int .i64 x)]).map fun c => c.map V.d) := List.take_of_length_le (by simp [hl])
        rw [hcut]
        refine ⟨by simp, ⟨by omega, by omega⟩, re.set.length - (i + 1), _, _, by omega, Cln.refl, i + 1, rfl, by omega, ?_, ?_, ?_, .inr ⟨g + 1, ?_, ?_⟩⟩ <;> (try simp only [keepE_app, List.contains_cons, List.contains_nil, Nat.reduceBEq, Bool.or_false, Bool.false_or, Bool.or_true, Bool.true_or, updE, trimE_upd, trimE_trim, trimE_app, Nat.reduceShiftRight, Nat.reduceMod, Nat.reduceEqDiff, if_true, if_false, reduceIte])
        · exact h1
        · exact h3
        · rw [w64 _ (by omega)]; rfl
        · rw [show 2 + 2 * (i + 1) = 2 + 2 * i + 2 by omega]
        · rw [take_get hk', ordP_snoc]; simp
    · have hie : i = re.set.length := by omega
      subst hie
      have hl := ordP_len re re.set
      rcases hacc with ⟨hz, h4, rfl⟩ | ⟨g, h4, rfl⟩
      · simp only [vsA, vsB, vsC, appendWp, Nat.reduceShiftRight, Nat.reduceMod, Nat.reduceLT, Nat.reduceMul, Nat.reduceSub, Int.reduceToNat, Int.reduceNeg, Int.reduceLT, Int.reduceLE, Int.reduceEq, Nat.reduceEqDiff, Nat.reduceAdd, Nat.reduceLeDiff, reduceIte, reduceCtorEq, Nat.reduceBEq, tysA, i64, iD, bD, boxR, Re.cells_eq re, intArr, spanC, h1, h3, h4, h5, Nat.lt_irrefl]
        refine ⟨by simp, by simp, ?_⟩
        have hz' : re.set = [] := List.eq_nil_of_length_eq_zero hz
        simp [ordL, ordP, hz', iD]
      · simp only [vsA, vsB, vsC, appendWp, Nat.reduceShiftRight, Nat.reduceMod, Nat.reduceLT, Nat.reduceMul, Nat.reduceSub, Int.reduceToNat, Int.reduceNeg, Int.reduceLT, Int.reduceLE, Int.reduceEq, Nat.reduceEqDiff, Nat.reduceAdd, Nat.reduceLeDiff, reduceIte, reduceCtorEq, Nat.reduceBEq, tysA, i64, iD, bD, boxR, Re.cells_eq re, intArr, spanC, h1, h3, h4, h5, Nat.lt_irrefl, List.take_length]
        have hels : ((((ordP re re.set).map fun x => [D.sc (Value.int .i64 x)]).map fun c => c.map V.d).take (2 + 2 * re.set.length)) ++ [[V.d (D.sc (Value.int IntKind.i64 re.mn))], [V.d (D.sc (Value.int IntKind.i64 re.mx))], [V.d (D.sc (Value.int IntKind.i64 re.mode))], [V.d (D.sc (Value.int IntKind.i64 re.n))], [V.d (D.sc (Value.int IntKind.i64 (if re.neg = true then 1 else 0)))], [V.d (D.sc (Value.int IntKind.i64 re.kids.length))]]
            = ((ordL re).map fun x => [D.sc (Value.int .i64 x)]).map fun c => c.map V.d := by
          rw [List.take_of_length_le (by simp [hl])]; simp [ordL]
        simp only [hels]
        refine ⟨by simp, ⟨by omega, by omega⟩, ?_⟩
        rw [frz_data 7 0 _ _ _ (by simp [ordL, hl]), if_pos (by simp [ordL, hl])]
        rfl

/-! ### Comparing a tree with itself -/

set_option maxRecDepth 100000 in
set_option maxHeartbeats 8000000 in
theorem cmpSelf_ok (re : Re) (hs : re.fine = true) : PureOK Try.prog 26 [reV re, reV re] (i64 0) := by
  revert hs
  refine Re.ind (Q := fun re => re.fine = true → PureOK Try.prog 26 [reV re, reV re] (i64 0)) (fun re ih hs => ?_) re
  obtain ⟨hset1, hlen, hfk⟩ := Re.fine_spec hs
  have hor := order_ok re hset1 hlen
  have hL : (ordL re).length = 8 + 2 * re.set.length := by simp [ordL, ordP_len]; omega
  rw [reV_eq re] at hor
  simp only [iD, bD] at hor
  generalize ordL re = L at *
  refine fn_ok Try.func26 rfl Try.ntmps26 Try.results26 rfl 0 1023 (by simp) (by simp) ?_
  simp only [vsA, vsB, vsC, appendWp, Nat.reduceShiftRight, Nat.reduceMod, Nat.reduceLT, Nat.reduceMul, Nat.reduceSub, Int.reduceToNat, Int.reduceNeg, Int.reduceLT, Int.reduceLE, Int.reduceEq, Nat.reduceEqDiff, Nat.reduceAdd, Nat.reduceLeDiff, reduceIte, reduceCtorEq, Nat.reduceBEq, tysA, i64, reV_eq re, iD, bD]
  refine call_pure hor rfl rfl ?_
  simp only [vsA, vsB, vsC, appendWp, Nat.reduceShiftRight, Nat.reduceMod, Nat.reduceLT, Nat.reduceMul, Nat.reduceSub, Int.reduceToNat, Int.reduceNeg, Int.reduceLT, Int.reduceLE, Int.reduceEq, Nat.reduceEqDiff, Nat.reduceAdd, Nat.reduceLeDiff, reduceIte, reduceCtorEq, Nat.reduceBEq, tysA, i64]
  refine call_pure hor rfl rfl ?_
  simp only [vsA, vsB, vsC, appendWp, Nat.reduceShiftRight, Nat.reduceMod, Nat.reduceLT, Nat.reduceMul, Nat.reduceSub, Int.reduceToNat, Int.reduceNeg, Int.reduceLT, Int.reduceLE, Int.reduceEq, Nat.reduceEqDiff, Nat.reduceAdd, Nat.reduceLeDiff, reduceIte, reduceCtorEq, Nat.reduceBEq, tysA, i64]
  refine loop_rule (fun n e s => ∃ i : Nat, n = L.length - i ∧ i ≤ L.length ∧ e 2 = .rf 0 0 0 0 ∧ e 3 = .rf 1 0 0 0 ∧ e 5 = .d (intsD L) ∧ e 6 = .d (intsD L) ∧ e 7 = i64 i ∧ s = [boxR re, boxR re])
    ⟨_, _, _, Cln.refl, 0, rfl, by omega, rfl, rfl, rfl, rfl, rfl, by rw [boxR, Re.cells_eq]; rfl⟩ ?_
  rintro n e s ⟨i, rfl, hi, h2, h3, h5, h6, h7, rfl⟩
  rcases Nat.lt_or_ge i L.length with hlt | hge
  · obtain ⟨k, hk⟩ : ∃ k, L[i]? = some k := ⟨_, List.getElem?_eq_getElem hlt⟩
    simp only [vsA, vsB, vsC, appendWp, Nat.reduceShiftRight, Nat.reduceMod, Nat.reduceLT, Nat.reduceMul, Nat.reduceSub, Int.reduceToNat, Int.reduceNeg, Int.reduceLT, Int.reduceLE, Int.reduceEq, Nat.reduceEqDiff, Nat.reduceAdd, Nat.reduceLeDiff, reduceIte, reduceCtorEq, Nat.reduceBEq, tysA, i64, h2, h3, h5, h6, h7, hlt]
    refine draw_c mix [] [] (by rfl) ?_
    simp only [vsA, vsB, vsC, appendWp, Nat.reduceShiftRight, Nat.reduceMod, Nat.reduceLT, Nat.reduceMul, Nat.reduceSub, Int.reduceToNat, Int.reduceNeg, Int.reduceLT, Int.reduceLE, Int.reduceEq, Nat.reduceEqDiff, Nat.reduceAdd, Nat.reduceLeDiff, reduceIte, reduceCtorEq, Nat.reduceBEq, tysA, i64, iD, h2, h3, h5, h6, h7, hlt, hk, Int.lt_irrefl]
    refine draw_c mix [] [] (by rfl) ?_
    simp only [vsA, vsB, vsC, appendWp, Nat.reduceShiftRight, Nat.reduceMod, Nat.reduceLT, Nat.reduceMul, Nat.reduceSub, Int.reduceToNat, Int.reduceNeg, Int.reduceLT, Int.reduceLE, Int.reduceEq, Nat.reduceEqDiff, Nat.reduceAdd, Nat.reduceLeDiff, reduceIte, reduceCtorEq, Nat.reduceBEq, tysA, i64, iD, h2, h3, h5, h6, h7, hlt, hk, Int.lt_irrefl]
    refine ⟨L.length - (i + 1), _, _, by omega, Cln.refl, i + 1, rfl, hlt, ?_, ?_, ?_, ?_, ?_, rfl⟩ <;> (try simp only [keepE_app, List.contains_cons, List.contains_nil, Nat.reduceBEq, Bool.or_false, Bool.false_or, Bool.or_true, Bool.true_or, updE, trimE_upd, trimE_trim, trimE_app, Nat.reduceShiftRight, Nat.reduceMod, Nat.reduceEqDiff, if_true, if_false, reduceIte])
    · exact h2
    · exact h3
    · exact h5
    · exact h6
    · rw [w64 _ (by omega)]; rfl
  have hie : i = L.length := by omega
  subst hie
  simp only [vsA, vsB, vsC, appendWp, Nat.reduceShiftRight, Nat.reduceMod, Nat.reduceLT, Nat.reduceMul, Nat.reduceSub, Int.reduceToNat, Int.reduceNeg, Int.reduceLT, Int.reduceLE, Int.reduceEq, Nat.reduceEqDiff, Nat.reduceAdd, Nat.reduceLeDiff, reduceIte, reduceCtorEq, Nat.reduceBEq, tysA, i64, h2, h3, h5, h6, h7, Nat.lt_irrefl]
  refine loop_rule (fun n e s => ∃ i : Nat, n = re.kids.length - i ∧ i ≤ re.kids.length ∧ e 2 = .rf 0 0 0 0 ∧ e 3 = .rf 1 0 0 0 ∧ e 8 = i64 i ∧ s = [boxR re, boxR re])
    ⟨_, _, _, Cln.refl, 0, rfl, by omega, ?_, ?_, rfl, rfl⟩ ?_
  · simp only [keepE_app, List.contains_cons, List.contains_nil, Nat.reduceBEq, Bool.or_false, Bool.false_or, Bool.or_true, Bool.true_or, updE, trimE_upd, trimE_trim, trimE_app, Nat.reduceShiftRight, Nat.reduceMod, Nat.reduceEqDiff, if_true, if_false, reduceIte]; exact h2
  · simp only [keepE_app, List.contains_cons, List.contains_nil, Nat.reduceBEq, Bool.or_false, Bool.false_or, Bool.or_true, Bool.true_or, updE, trimE_upd, trimE_trim, trimE_app, Nat.reduceShiftRight, Nat.reduceMod, Nat.reduceEqDiff, if_true, if_false, reduceIte]; exact h3
  rintro n e s ⟨i, rfl, hi, h2, h3, h8, rfl⟩
  rcases Nat.lt_or_ge i re.kids.length with hlt | hge
  · obtain ⟨k, hk⟩ : ∃ k, re.kids[i]? = some k := ⟨_, List.getElem?_eq_getElem hlt⟩
    have hm := List.mem_of_getElem? hk
    have hks := hfk k hm
    simp only [vsA, vsB, vsC, appendWp, Nat.reduceShiftRight, Nat.reduceMod, Nat.reduceLT, Nat.reduceMul, Nat.reduceSub, Int.reduceToNat, Int.reduceNeg, Int.reduceLT, Int.reduceLE, Int.reduceEq, Nat.reduceEqDiff, Nat.reduceAdd, Nat.reduceLeDiff, reduceIte, reduceCtorEq, Nat.reduceBEq, tysA, i64, h2, h3, h8, boxR, Re.cells_eq re, hlt, iD, bD]
    refine draw_c mix [] [] (by rfl) ?_
    simp only [vsA, vsB, vsC, appendWp, Nat.reduceShiftRight, Nat.reduceMod, Nat.reduceLT, Nat.reduceMul, Nat.reduceSub, Int.reduceToNat, Int.reduceNeg, Int.reduceLT, Int.reduceLE, Int.reduceEq, Nat.reduceEqDiff, Nat.reduceAdd, Nat.reduceLeDiff, reduceIte, reduceCtorEq, Nat.reduceBEq, tysA, i64, h2, h3, h8, hlt, hk, iD, bD]
    refine callC_pure (ih k hm hks) (by simp [refsV, refsV.go, reV_eq, i64, bV, reEl]) (by simp [refsV, refsV.go, reV_eq, i64, bV, reEl]) ?_
    simp only [vsA, vsB, vsC, appendWp, Nat.reduceShiftRight, Nat.reduceMod, Nat.reduceLT, Nat.reduceMul, Nat.reduceSub, Int.reduceToNat, Int.reduceNeg, Int.reduceLT, Int.reduceLE, Int.reduceEq, Nat.reduceEqDiff, Nat.reduceAdd, Nat.reduceLeDiff, reduceIte, reduceCtorEq, Nat.reduceBEq, tysA, i64, h2, h3, h8, hlt, hk, iD, bD]
    refine ⟨re.kids.length - (i + 1), _, _, by omega, Cln.refl, i + 1, rfl, hlt, ?_, ?_, ?_, rfl⟩ <;> (try simp only [keepE_app, List.contains_cons, List.contains_nil, Nat.reduceBEq, Bool.or_false, Bool.false_or, Bool.or_true, Bool.true_or, updE, trimE_upd, trimE_trim, trimE_app, Nat.reduceShiftRight, Nat.reduceMod, Nat.reduceEqDiff, if_true, if_false, reduceIte])
    · exact h2
    · exact h3
    · rw [w64 _ (by omega)]; rfl
  · have hie : i = re.kids.length := by omega
    subst hie
    simp only [vsA, vsB, vsC, appendWp, Nat.reduceShiftRight, Nat.reduceMod, Nat.reduceLT, Nat.reduceMul, Nat.reduceSub, Int.reduceToNat, Int.reduceNeg, Int.reduceLT, Int.reduceLE, Int.reduceEq, Nat.reduceEqDiff, Nat.reduceAdd, Nat.reduceLeDiff, reduceIte, reduceCtorEq, Nat.reduceBEq, tysA, i64, h2, h3, h8, boxR, Re.cells_eq re, Nat.lt_irrefl, iD, bD]
    all_goals first | exact ⟨rfl, rfl⟩ | exact ⟨rfl, trivial⟩ | rfl | trivial | (rw [reV_eq]; rfl)

end Go.Proofs.Ytafbdphblilenaa

set_option linter.unusedSimpArgs false
set_option linter.unusedVariables false
namespace Go.Proofs.Ytafbdphblilenaa
open Go.VL

/-! ### The example -/

def aR : Re := .mk 1 [(97, 97)] [] 0 0 0 0 false
def xR : Re := .mk 4 [] [aR] 2 3 0 0 false
def yR : Re := .mk 2 [] [aR, aR, .mk 4 [] [aR] 0 1 0 0 false] 0 0 0 0 false

theorem x_exq : xR.every exq = true := by decide
theorem x_fine : xR.fine = true := by decide
theorem y_fine : yR.fine = true := by decide
theorem x_lens : xR.lens = (2, 3) := by decide
theorem x_size : (xR.size : Int) = 2 := by decide
theorem y_size : (yR.size : Int) = 5 := by decide
theorem x_depth : xR.depth = 2 := by decide
theorem x_exp : expandR xR = (yR, 0) := by
  rw [expandR, if_neg (by decide), if_neg (by decide)]
  rfl

theorem reV_x : reV xR = .ag [i64 4, .d (.sl []), .d (.sl [aR.cells]), i64 2, i64 3, i64 0, i64 0, bV false] := by rw [reV_eq]; rfl
theorem a_cells : aR.cells = [iD 1, .sl [[iD 97, iD 97]], .sl [], iD 0, iD 0, iD 0, iD 0, bD false] := by rw [Re.cells_eq]; rfl

set_option maxRecDepth 100000 in
set_option maxHeartbeats 8000000 in
theorem lives_ok : PureOK Try.prog 17 [] (bV true) := by
  have hl := lengths_ok xR x_fine
  have he := expand_ok xR x_exq
  have hs := size_ok xR (by decide)
  have hd := depth_ok xR (by decide)
  have hs' := size_ok yR (by decide)
  have hc := cmpSelf_ok yR y_fine
  rw [x_lens] at hl
  rw [x_exp] at he
  rw [x_size] at hs
  rw [x_depth] at hd
  rw [y_size] at hs'
  refine fn_ok Try.func17 rfl Try.ntmps17 Try.results17 rfl 0 255 (by simp) (by simp) ?_
  simp only [vsA, vsB, vsC, appendWp, Nat.reduceShiftRight, Nat.reduceMod, Nat.reduceLT, Nat.reduceMul, Nat.reduceSub, Int.reduceToNat, Int.reduceNeg, Int.reduceLT, Int.reduceLE, Int.reduceEq, Nat.reduceEqDiff, Nat.reduceAdd, Nat.reduceLeDiff, reduceIte, reduceCtorEq, Nat.reduceBEq, tysA, i64]
  refine call_give [] rfl ?_
  refine call_pure hl rfl rfl ?_
  simp only [vsA, vsB, vsC, appendWp, Nat.reduceShiftRight, Nat.reduceMod, Nat.reduceLT, Nat.reduceMul, Nat.reduceSub, Int.reduceToNat, Int.reduceNeg, Int.reduceLT, Int.reduceLE, Int.reduceEq, Nat.reduceEqDiff, Nat.reduceAdd, Nat.reduceLeDiff, reduceIte, reduceCtorEq, Nat.reduceBEq, tysA, i64, killO]
  refine call_give [] rfl ?_
  refine call_pure he rfl (by simp [refsV, refsV.go, reV_eq, i64, bV, reEl]) ?_
  simp only [vsA, vsB, vsC, appendWp, Nat.reduceShiftRight, Nat.reduceMod, Nat.reduceLT, Nat.reduceMul, Nat.reduceSub, Int.reduceToNat, Int.reduceNeg, Int.reduceLT, Int.reduceLE, Int.reduceEq, Nat.reduceEqDiff, Nat.reduceAdd, Nat.reduceLeDiff, reduceIte, reduceCtorEq, Nat.reduceBEq, tysA, i64, killO]
  refine call_give [] rfl ?_
  refine call_pure hs rfl rfl ?_
  simp only [vsA, vsB, vsC, appendWp, Nat.reduceShiftRight, Nat.reduceMod, Nat.reduceLT, Nat.reduceMul, Nat.reduceSub, Int.reduceToNat, Int.reduceNeg, Int.reduceLT, Int.reduceLE, Int.reduceEq, Nat.reduceEqDiff, Nat.reduceAdd, Nat.reduceLeDiff, reduceIte, reduceCtorEq, Nat.reduceBEq, tysA, i64, killO]
  refine call_give [] rfl ?_
  refine call_pure hd rfl rfl ?_
  simp only [vsA, vsB, vsC, appendWp, Nat.reduceShiftRight, Nat.reduceMod, Nat.reduceLT, Nat.reduceMul, Nat.reduceSub, Int.reduceToNat, Int.reduceNeg, Int.reduceLT, Int.reduceLE, Int.reduceEq, Nat.reduceEqDiff, Nat.reduceAdd, Nat.reduceLeDiff, reduceIte, reduceCtorEq, Nat.reduceBEq, tysA, i64, killO]
  refine call_give [] rfl ?_
  refine call_pure hs' rfl rfl ?_
  simp only [vsA, vsB, vsC, appendWp, Nat.reduceShiftRight, Nat.reduceMod, Nat.reduceLT, Nat.reduceMul, Nat.reduceSub, Int.reduceToNat, Int.reduceNeg, Int.reduceLT, Int.reduceLE, Int.reduceEq, Nat.reduceEqDiff, Nat.reduceAdd, Nat.reduceLeDiff, reduceIte, reduceCtorEq, Nat.reduceBEq, tysA, i64, killO]
  refine call_give [] rfl ?_
  refine call_pure hc rfl rfl ?_
  simp only [vsA, vsB, vsC, appendWp, Nat.reduceShiftRight, Nat.reduceMod, Nat.reduceLT, Nat.reduceMul, Nat.reduceSub, Int.reduceToNat, Int.reduceNeg, Int.reduceLT, Int.reduceLE, Int.reduceEq, Nat.reduceEqDiff, Nat.reduceAdd, Nat.reduceLeDiff, reduceIte, reduceCtorEq, Nat.reduceBEq, tysA, i64, killO]
  all_goals first | exact ⟨rfl, rfl⟩ | exact ⟨rfl, trivial⟩ | rfl | trivial | (rw [reV_eq]; rfl)

end Go.Proofs.Ytafbdphblilenaa

set_option linter.unusedSimpArgs false
set_option linter.unusedVariables false
namespace Go.Proofs.Ytafbdphblilenaa
open Go.VL

/-! ### The maker of trees: what it computes -/

def Mk.has (m : Mk) (u : Int) : Bool := decide (0 < bitV .and .i64 m.uses u)

def Re.node (op : Int) (kids : List Re) : Re := .mk op [] kids 0 0 0 0 false

def kidsFrom (t : Mk → Re × Mk) : Nat → Int → Mk → List Re × Mk
  | 0, _, m => ([], m)
  | f + 1, i, m =>
    if i < 2 + (m.next 2).1 then
      (((t (m.next 2).2).1) :: (kidsFrom t f (i + 1) (t (m.next 2).2).2).1, (kidsFrom t f (i + 1) (t (m.next 2).2).2).2)
    else ([], (m.next 2).2)

def repMins : List Int := [0, 0, 0, 0, 1, 1, 1, 0, 2, 0, 1, 2]
def repMaxs : List Int := [-1, -1, -1, 1, -1, -1, 2, 2, 2, 3, 1, -1]

/-- The mode of a repetition. -/
def repMode (m : Mk) : Int × Mk :=
  let x := m.next 2
  if m.has 8 then (if (x.2.next 4).1 = 0 then 2 else x.1, (x.2.next 4).2) else x

/-- What is repeated. -/
def repKid (t : Mk → Re × Mk) (m : Mk) : Re × Mk :=
  let x := t m
  if bitV .and .i64 x.2.uses 32 = 0 ∧ x.1.nul = true then x.2.set else x

def Mk.rep (t : Mk → Re × Mk) (m : Mk) : Re × Mk :=
  let k := m.next 12
  let md := repMode k.2
  let kid := repKid t md.2
  (.mk 4 [] [kid.1] ((repMins[k.1.toNat]?).getD 0) ((repMaxs[k.1.toNat]?).getD 0) md.1 0 false, kid.2)

/-- The number of a capture. -/
def capNum (m : Mk) : Int × Mk :=
  let again (m : Mk) : Int × Mk := (1 + (m.next (max 1 m.caps)).1, (m.next (max 1 m.caps)).2)
  if 4 < m.caps + 1 then again m
  else if 0 < m.caps then (if (m.next 9).1 = 0 then again (m.next 9).2 else (m.caps + 1, (m.next 9).2))
  else (m.caps + 1, m)

def Mk.withCaps (m : Mk) (c : Int) : Mk := ⟨m.l, m.pos, m.uses, m.left, c⟩
def Mk.less (m : Mk) : Mk := ⟨m.l, m.pos, m.uses, m.left - 1, m.caps⟩

def Mk.capture (t : Mk → Re × Mk) (m : Mk) : Re × Mk :=
  let c := capNum m
  let r := t (c.2.withCaps (max c.2.caps c.1))
  (.mk 5 [] [r.1] 0 0 0 c.1 false, r.2)

def Mk.node (t : Mk → Re × Mk) (k : Int) (m : Mk) : Re × Mk :=
  if k < 5 then (Re.node 2 (kidsFrom t 4 0 m).1, (kidsFrom t 4 0 m).2)
  else if k < 8 then (Re.node 3 (kidsFrom t 4 0 m).1, (kidsFrom t 4 0 m).2)
  else if k < 12 then m.rep t
  else if k = 12 ∧ m.has 64 = true then m.capture t
  else if k = 13 ∧ m.has 64 = true then m.capture t
  else if k = 14 ∧ m.has 16 = true then (.mk 11 [] [] 0 0 0 (m.next 6).1 false, (m.next 6).2)
  else if k = 15 ∧ m.has 4 = true then
    let y := (m.next 3).2.next 2
    (.mk (7 + y.1) [] [(t y.2).1] 0 0 0 0 (decide ((m.next 3).1 = 0)), (t y.2).2)
  else if k = 16 ∧ m.has 8 = true then (Re.node 9 [(t m).1], (t m).2)
  else if k = 17 ∧ m.has 1 = true ∧ 0 < m.caps then (.mk 6 [] [] 0 0 0 (1 + (m.next m.caps).1) false, (m.next m.caps).2)
  else if k = 18 ∧ m.has 2 = true ∧ 0 < m.caps then
    let x := m.next m.caps
    let y := t x.2
    let z := t y.2
    (.mk 10 [] [y.1, z.1] 0 0 0 (1 + x.1) false, z.2)
  else m.set

def Mk.tree : Nat → Mk → Re × Mk
  | 0, m =>
    let x := m.less.next 20
    if x.1 = 0 then (Re.node 0 [], x.2) else x.2.set
  | d + 1, m =>
    let x := m.less.next 20
    if x.2.left < 3 ∨ (x.2.l.length : Int) < x.2.pos then (if x.1 = 0 then (Re.node 0 [], x.2) else x.2.set)
    else x.2.node (Mk.tree d) x.1

/-- The bounds that it keeps. -/
structure Mk.In (m : Mk) (b : Int) : Prop where
  l : ∀ x ∈ m.l, I64 x
  p0 : 0 ≤ m.pos
  p1 : m.pos ≤ b
  l0 : -b ≤ m.left
  l1 : m.left ≤ 1000000
  c0 : 0 ≤ m.caps
  c1 : m.caps ≤ 4

theorem Mk.In.mono {m : Mk} {b b' : Int} (h : m.In b) (hb : b ≤ b') : m.In b' :=
  ⟨h.l, h.p0, by have := h.p1; omega, by have := h.l0; omega, h.l1, h.c0, h.c1⟩

theorem Mk.In.next {m : Mk} {b : Int} (h : m.In b) (n : Int) : (m.next n).2.In (b + 1) :=
  ⟨h.l, by have := h.p0; simp only [Mk.next]; omega, by have := h.p1; simp only [Mk.next]; omega, by have := h.l0; simp only [Mk.next]; omega, h.l1, h.c0, h.c1⟩

theorem Mk.In.set {m : Mk} {b : Int} (h : m.In b) : m.set.2.In (b + 1) := h.next 15

/-- A step that adds c to the bounds, and makes trees of at most z nodes. -/
def Good (t : Mk → Re × Mk) (c z : Int) : Prop := ∀ m b, 0 ≤ b → Mk.In m b → (t m).2.In (b + c) ∧ ((t m).1.size : Int) ≤ z

theorem ofSet_size (s : List (Int × Int)) : (Re.ofSet s).size = 1 := rfl

theorem kidsFrom_good {t : Mk → Re × Mk} {c z : Int} (hc : 0 ≤ c) (ht : Good t c z) : ∀ (f : Nat) (i : Int) (m : Mk) (b : Int), 0 ≤ b → m.In b → 
    (kidsFrom t f i m).2.In (b + f * (c + 1)) ∧ (Re.sizeL (kidsFrom t f i m).1 : Int) ≤ ((kidsFrom t f i m).1.length : Int) * z ∧ (kidsFrom t f i m).1.length ≤ f
  | 0, i, m, b, _, h => by simp only [kidsFrom]; exact ⟨by simpa using h, by simp [Re.sizeL], by simp⟩
  | f + 1, i, m, b, hb, h => by
    simp only [kidsFrom]
    have hf : (0 : Int) ≤ f * (c + 1) := Int.mul_nonneg (by omega) (by omega)
    have e : ((f + 1 : Nat) : Int) * (c + 1) = f * (c + 1) + c + 1 := by rw [Int.natCast_add, Int.add_mul]; simp; omega
    split
    · have h1 := h.next 2
      obtain ⟨h2, h3⟩ := ht _ (b + 1) (by omega) h1
      obtain ⟨h4, h5, h6⟩ := kidsFrom_good hc ht f (i + 1) _ (b + 1 + c) (by omega) h2
      refine ⟨h4.mono (by omega), ?_, by simpa using h6⟩
      simp only [Re.sizeL, List.length_cons, Int.natCast_add, Int.add_mul]
      omega
    · exact ⟨(h.next 2).mono (by omega), by simp [Re.sizeL], by simp⟩

end Go.Proofs.Ytafbdphblilenaa

set_option linter.unusedSimpArgs false
set_option linter.unusedVariables false
namespace Go.Proofs.Ytafbdphblilenaa
open Go.VL

/-! ### The maker of trees: its bounds -/

theorem repMode_in {m : Mk} {b : Int} (h : m.In b) : (repMode m).2.In (b + 2) := by
  unfold repMode
  simp only
  split
  · have := (h.next 2).next 4
    rwa [show b + 1 + 1 = b + 2 by omega] at this
  · exact (h.next 2).mono (by omega)

theorem repKid_good {t : Mk → Re × Mk} {c z : Int} (hc : 0 ≤ c) (hz : 1 ≤ z) (ht : Good t c z) : Good (repKid t) (c + 1) z := by
  intro m b hb h
  obtain ⟨h1, h2⟩ := ht m b hb h
  unfold repKid
  simp only
  split
  · exact ⟨by have := h1.set; rwa [Int.add_assoc] at this, by simp only [Mk.set]; rw [ofSet_size]; omega⟩
  · exact ⟨h1.mono (by omega), h2⟩

theorem size_one (op mn mx mode n : Int) (neg : Bool) (k : Re) : ((Re.mk op [] [k] mn mx mode n neg).size : Int) = 1 + k.size := by
  simp [Re.size, Re.sizeL]

theorem rep_good {t : Mk → Re × Mk} {c z : Int} (hc : 0 ≤ c) (hz : 1 ≤ z) (ht : Good t c z) : Good (Mk.rep t) (c + 4) (z + 1) := by
  intro m b hb h
  have h1 := repMode_in (h.next 12)
  obtain ⟨h2, h3⟩ := repKid_good hc hz ht _ _ (by omega) h1
  simp only [Mk.rep]
  exact ⟨h2.mono (by omega), by rw [size_one]; omega⟩

theorem capNum_in {m : Mk} {b : Int} (h : m.In b) : (capNum m).2.In (b + 2) ∧ (capNum m).2.caps = m.caps ∧ 1 ≤ (capNum m).1 ∧ (capNum m).1 ≤ 4 := by
  have h0 := h.c0
  have h1 := h.c1
  have again : ∀ (m' : Mk), m'.caps = m.caps → 0 < m.caps → 0 ≤ pick m'.l m'.pos (max 1 m'.caps) ∧ pick m'.l m'.pos (max 1 m'.caps) < m.caps := by
    intro m' he hp
    have := pick_range m'.l m'.pos (max 1 m'.caps) (by omega)
    rw [he] at this ⊢
    omega
  unfold capNum
  simp only
  split
  · have := again m rfl (by omega)
    exact ⟨(h.next (max 1 m.caps)).mono (by omega), rfl, by simp only [Mk.next]; omega, by simp only [Mk.next]; omega⟩
  · split
    · split
      · have := again (m.next 9).2 rfl (by omega)
        refine ⟨?_, rfl, by simp only [Mk.next] at this ⊢; omega, by simp only [Mk.next] at this ⊢; omega⟩
        have h2 := (h.next 9).next (max 1 (m.next 9).2.caps)
        rwa [show b + 1 + 1 = b + 2 by omega] at h2
      · exact ⟨(h.next 9).mono (by omega), rfl, by omega, by omega⟩
    · exact ⟨h.mono (by omega), rfl, by omega, by omega⟩

theorem capture_good {t : Mk → Re × Mk} {c z : Int} (hc : 0 ≤ c) (ht : Good t c z) : Good (Mk.capture t) (c + 2) (z + 1) := by
  intro m b hb h
  obtain ⟨h1, h2, h3, h4⟩ := capNum_in h
  simp only [Mk.capture]
  obtain ⟨h5, h6⟩ := ht ((capNum m).2.withCaps (max (capNum m).2.caps (capNum m).1)) (b + 2) (by omega) ⟨h1.l, h1.p0, h1.p1, h1.l0, h1.l1, by show 0 ≤ max _ _; omega, by have := h.c1; show max _ _ ≤ 4; omega⟩
  exact ⟨h5.mono (by omega), by rw [size_one]; omega⟩

theorem node_good {t : Mk → Re × Mk} {c z : Int} (hc : 0 ≤ c) (hz : 1 ≤ z) (ht : Good t c z) (k : Int) : Good (Mk.node t k) (4 * (c + 1)) (4 * z + 1) := by
  intro m b hb h
  obtain ⟨a1, a2, a3⟩ := kidsFrom_good hc ht 4 0 m b hb h
  have a2' : (Re.sizeL (kidsFrom t 4 0 m).1 : Int) ≤ 4 * z := by
    have : ((kidsFrom t 4 0 m).1.length : Int) * z ≤ 4 * z := Int.mul_le_mul_of_nonneg_right (by omega) (by omega)
    omega
  have a1' : (kidsFrom t 4 0 m).2.In (b + 4 * (c + 1)) := a1
  have sz : ∀ op, ((Re.node op (kidsFrom t 4 0 m).1).size : Int) ≤ 4 * z + 1 := by intro op; simp only [Re.node, Re.size]; omega
  unfold Mk.node
  split
  · exact ⟨a1', sz _⟩
  split
  · exact ⟨a1', sz _⟩
  split
  · obtain ⟨h1, h2⟩ := rep_good hc hz ht m b hb h
    exact ⟨h1.mono (by omega), by omega⟩
  split
  · obtain ⟨h1, h2⟩ := capture_good hc ht m b hb h
    exact ⟨h1.mono (by omega), by omega⟩
  split
  · obtain ⟨h1, h2⟩ := capture_good hc ht m b hb h
    exact ⟨h1.mono (by omega), by omega⟩
  split
  · exact ⟨(h.next 6).mono (by omega), by simp [Re.size, Re.sizeL]; omega⟩
  split
  · simp only
    obtain ⟨h1, h2⟩ := ht _ (b + 1 + 1) (by omega) ((h.next 3).next 2)
    exact ⟨h1.mono (by omega), by rw [size_one]; omega⟩
  split
  · obtain ⟨h1, h2⟩ := ht m b hb h
    exact ⟨h1.mono (by omega), by simp only [Re.node]; rw [size_one]; omega⟩
  split
  · exact ⟨(h.next m.caps).mono (by omega), by simp [Re.size, Re.sizeL]; omega⟩
  split
  · simp only
    obtain ⟨h1, h2⟩ := ht _ (b + 1) (by omega) (h.next m.caps)
    obtain ⟨h3, h4⟩ := ht _ (b + 1 + c) (by omega) h1
    exact ⟨h3.mono (by omega), by simp only [Re.size, Re.sizeL]; omega⟩
  · exact ⟨h.set.mono (by omega), by simp only [Mk.set]; rw [ofSet_size]; omega⟩

def cD : Nat → Int
  | 0 => 3
  | d + 1 => 2 + 4 * (cD d + 1)
def zD : Nat → Int
  | 0 => 1
  | d + 1 => 4 * zD d + 1

theorem cD_nonneg : ∀ d, 3 ≤ cD d
  | 0 => by simp [cD]
  | d + 1 => by have := cD_nonneg d; simp only [cD]; omega
theorem zD_pos : ∀ d, 1 ≤ zD d
  | 0 => by simp [zD]
  | d + 1 => by have := zD_pos d; simp only [zD]; omega

theorem Mk.In.left {m : Mk} {b : Int} (h : m.In b) : m.less.In (b + 1) :=
  ⟨h.l, h.p0, by have := h.p1; show m.pos ≤ _; omega, by have := h.l0; show _ ≤ m.left - 1; omega, by have := h.l1; show m.left - 1 ≤ _; omega, h.c0, h.c1⟩

theorem tree_good : ∀ d, Good (Mk.tree d) (cD d) (zD d)
  | 0 => by
    intro m b hb h
    have h1 := h.left.next 20
    simp only [Mk.tree, cD, zD]
    split
    · exact ⟨h1.mono (by omega), by simp [Re.node, Re.size, Re.sizeL]⟩
    · exact ⟨h1.set.mono (by omega), by simp only [Mk.set]; rw [ofSet_size]; omega⟩
  | d + 1 => by
    intro m b hb h
    have h1 := h.left.next 20
    have hc := cD_nonneg d
    have hz := zD_pos d
    simp only [Mk.tree, cD, zD]
    split
    · split
      · exact ⟨h1.mono (by omega), by simp [Re.node, Re.size, Re.sizeL]; omega⟩
      · exact ⟨h1.set.mono (by omega), by simp only [Mk.set]; rw [ofSet_size]; omega⟩
    · obtain ⟨h2, h3⟩ := node_good (by omega) hz (tree_good d) ((m.less.next 20).1) _ (b + 1 + 1) (by omega) h1
      exact ⟨h2.mono (by omega), h3⟩

end Go.Proofs.Ytafbdphblilenaa

set_option linter.unusedSimpArgs false
set_option linter.unusedVariables false
namespace Go.Proofs.Ytafbdphblilenaa
open Go.VL

def TreeOK (d : Nat) : Prop := ∀ (m : Mk) (b : Int), 0 ≤ b → m.In b → b + cD d ≤ 1000000000 →
  callWp Try.prog 53 [mkV, i64 d] [mkO m] fun v s => v = reV (m.tree d).1 ∧ s = [mkO (m.tree d).2]

theorem kidsFrom_go {t : Mk → Re × Mk} {f : Nat} {i : Int} {m : Mk} (h : i < 2 + (m.next 2).1) : kidsFrom t (f + 1) i m = ((t (m.next 2).2).1 :: (kidsFrom t f (i + 1) (t (m.next 2).2).2).1, (kidsFrom t f (i + 1) (t (m.next 2).2).2).2) := by
  rw [kidsFrom, if_pos h]

theorem kidsFrom_stop {t : Mk → Re × Mk} {f : Nat} {i : Int} {m : Mk} (h : ¬ i < 2 + (m.next 2).1) : kidsFrom t (f + 1) i m = ([], (m.next 2).2) := by
  rw [kidsFrom, if_neg h]

/-- A list of trees. -/
def resD (l : List Re) : D := .sl (l.map Re.cells)

set_option maxRecDepth 100000 in
set_option maxHeartbeats 4000000 in
theorem kids_ok (d : Nat) (hd : d ≤ 1000) (ht : TreeOK d) (m : Mk) (b : Int) (hb : 0 ≤ b) (hm : m.In b) (hs : b + 4 * (cD d + 1) ≤ 1000000000) :
    callWp Try.prog 101 [mkV, i64 (d + 1 : Nat)] [mkO m] fun v s => v = .d (resD (kidsFrom (Mk.tree d) 4 0 m).1) ∧ s = [mkO (kidsFrom (Mk.tree d) 4 0 m).2] := by
  have hc := cD_nonneg d
  have w1 : IntKind.i64.wrap ((d + 1 : Nat) - 1 : Int) = (d : Int) := by rw [w64 _ (by omega)]; omega
  refine fn_ok Try.func101 rfl Try.ntmps101 Try.results101 rfl 1 115 (by simp) (by simp) ?_
  simp only [vsA, vsB, vsC, appendWp, Nat.reduceShiftRight, Nat.reduceMod, Nat.reduceLT, Nat.reduceMul, Nat.reduceSub, Int.reduceToNat, Int.reduceNeg, Int.reduceLT, Int.reduceLE, Int.reduceEq, Nat.reduceEqDiff, Nat.reduceAdd, Nat.reduceLeDiff, reduceIte, reduceCtorEq, Nat.reduceBEq, tysA, i64, mkV]
  refine loop_rule (fun n e s => ∃ (i : Nat) (m' : Mk) (l : List Re), n = 4 - i ∧ i ≤ 3 ∧ m'.In (b + i * (cD d + 1)) ∧ l.length = i ∧ e 0 = .rf 0 0 0 0 ∧ e 1 = i64 (d + 1 : Nat) ∧ e 6 = i64 i ∧
      kidsFrom (Mk.tree d) 4 0 m = (l ++ (kidsFrom (Mk.tree d) (4 - i) i m').1, (kidsFrom (Mk.tree d) (4 - i) i m').2) ∧
      ((i = 0 ∧ e 5 = .fu [] ∧ s = [mkO m']) ∨ ∃ g, e 5 = .so 1 g 0 i ∧ s = [mkO m', ⟨g, true, 8, (l.map Re.cells).map fun c => c.map V.d⟩])) ⟨_, _, _, Cln.refl, 0, m, [], rfl, by omega, by simpa using hm, rfl, rfl, rfl, rfl, by simp, .inl ⟨rfl, rfl, rfl⟩⟩ ?_
  rintro n e s ⟨i, m', l, rfl, hi, hm', hl, h0, h1, h6, hk, hacc⟩
  have hp := pick_range m'.l m'.pos 2 (by omega)
  have w2 : IntKind.i64.wrap (2 + pick m'.l m'.pos 2) = 2 + pick m'.l m'.pos 2 := w64 _ (by omega)
  have hci : (i : Int) * (cD d + 1) + (cD d + 1) ≤ 4 * (cD d + 1) := by
    have := Int.mul_le_mul_of_nonneg_right (show (i : Int) + 1 ≤ 4 by omega) (show (0 : Int) ≤ cD d + 1 by omega)
    rw [Int.add_mul, Int.one_mul] at this; exact this
  have hci0 : 0 ≤ (i : Int) * (cD d + 1) := Int.mul_nonneg (by omega) (by omega)
  have hpos : 0 ≤ m'.pos ∧ m'.pos ≤ 1000000000 := ⟨hm'.p0, by have := hm'.p1; omega⟩
  have hf : 4 - i = (3 - i) + 1 := by omega
  rw [hf] at hk
  rcases hacc with ⟨rfl, h5, rfl⟩ | ⟨g, h5, rfl⟩
  · simp only [vsA, vsB, vsC, appendWp, Nat.reduceShiftRight, Nat.reduceMod, Nat.reduceLT, Nat.reduceMul, Nat.reduceSub, Int.reduceToNat, Int.reduceNeg, Int.reduceLT, Int.reduceLE, Int.reduceEq, Nat.reduceEqDiff, Nat.reduceAdd, Nat.reduceLeDiff, reduceIte, reduceCtorEq, Nat.reduceBEq, tysA, i64, h0, h1, h6, mkV]
    refine call_one (next_ok m' hm'.l hpos 2 (by omega)) rfl rfl rfl rfl rfl rfl ?_
    have hlt : (0 : Int) < 2 + pick m'.l m'.pos 2 := by omega
    simp only [vsA, vsB, vsC, appendWp, Nat.reduceShiftRight, Nat.reduceMod, Nat.reduceLT, Nat.reduceMul, Nat.reduceSub, Int.reduceToNat, Int.reduceNeg, Int.reduceLT, Int.reduceLE, Int.reduceEq, Nat.reduceEqDiff, Nat.reduceAdd, Nat.reduceLeDiff, reduceIte, reduceCtorEq, Nat.reduceBEq, tysA, i64, h0, h1, h6, mkV, Mk.next, w1, w2, hlt, Int.natCast_zero]
    refine call_one (ht (m'.next 2).2 (b + 1) (by omega) (by simpa using hm'.next 2) (by omega)) rfl rfl rfl rfl rfl (renV_reV _ _) ?_
    simp only [vsA, vsB, vsC, appendWp, Nat.reduceShiftRight, Nat.reduceMod, Nat.reduceLT, Nat.reduceMul, Nat.reduceSub, Int.reduceToNat, Int.reduceNeg, Int.reduceLT, Int.reduceLE, Int.reduceEq, Nat.reduceEqDiff, Nat.reduceAdd, Nat.reduceLeDiff, reduceIte, reduceCtorEq, Nat.reduceBEq, tysA, i64, h0, h1, h5, h6, mkV, Mk.next, w1, w2, hlt, Int.natCast_zero]
    obtain ⟨g1, g2⟩ := tree_good d (m'.next 2).2 (b + 1) (by omega) (by simpa using hm'.next 2)
    refine ⟨fun x hx => by rw [List.mem_singleton.1 hx]; simp [Re.cells_len], by simp, 3, _, _, by omega, Cln.refl, 1, ((Mk.tree d) (m'.next 2).2).2, [((Mk.tree d) (m'.next 2).2).1], rfl, by omega, g1.mono (by simp; omega), rfl, ?_, ?_, ?_, ?_, .inr ⟨0, ?_, ?_⟩⟩
    · simp only [keepE_app, List.contains_cons, List.contains_nil, Nat.reduceBEq, Bool.or_false, Bool.false_or, Bool.or_true, Bool.true_or, updE, trimE_upd, trimE_trim, trimE_app, Nat.reduceShiftRight, Nat.reduceMod, Nat.reduceEqDiff, if_true, if_false, reduceIte]; exact h0
    · simp only [keepE_app, List.contains_cons, List.contains_nil, Nat.reduceBEq, Bool.or_false, Bool.false_or, Bool.or_true, Bool.true_or, updE, trimE_upd, trimE_trim, trimE_app, Nat.reduceShiftRight, Nat.reduceMod, Nat.reduceEqDiff, if_true, if_false, reduceIte]; exact h1
    · simp only [keepE_app, List.contains_cons, List.contains_nil, Nat.reduceBEq, Bool.or_false, Bool.false_or, Bool.or_true, Bool.true_or, updE, trimE_upd, trimE_trim, trimE_app, Nat.reduceShiftRight, Nat.reduceMod, Nat.reduceEqDiff, if_true, if_false, reduceIte]; rw [w64 _ (by omega)]; rfl
    · rw [hk, kidsFrom_go (by simpa [Mk.next] using hlt)]
      have : l = [] := List.eq_nil_of_length_eq_zero hl
      subst this
      rfl
    · simp only [keepE_app, List.contains_cons, List.contains_nil, Nat.reduceBEq, Bool.or_false, Bool.false_or, Bool.or_true, Bool.true_or, updE, trimE_upd, trimE_trim, trimE_app, Nat.reduceShiftRight, Nat.reduceMod, Nat.reduceEqDiff, if_true, if_false, reduceIte]
    · rfl
  · by_cases hlt : (i : Int) < 2 + pick m'.l m'.pos 2
    · rw [kidsFrom_go (f := 3 - i) (i := i) (m := m') (by simpa [Mk.next] using hlt)] at hk
      obtain ⟨g1, g2⟩ := tree_good d (m'.next 2).2 (b + i * (cD d + 1) + 1) (by omega) (hm'.next 2)
      simp only [vsA, vsB, vsC, appendWp, Nat.reduceShiftRight, Nat.reduceMod, Nat.reduceLT, Nat.reduceMul, Nat.reduceSub, Int.reduceToNat, Int.reduceNeg, Int.reduceLT, Int.reduceLE, Int.reduceEq, Nat.reduceEqDiff, Nat.reduceAdd, Nat.reduceLeDiff, reduceIte, reduceCtorEq, Nat.reduceBEq, tysA, i64, h0, h1, h6, mkV]
      refine call_one (next_ok m' hm'.l hpos 2 (by omega)) rfl rfl rfl rfl rfl rfl ?_
      simp only [vsA, vsB, vsC, appendWp, Nat.reduceShiftRight, Nat.reduceMod, Nat.reduceLT, Nat.reduceMul, Nat.reduceSub, Int.reduceToNat, Int.reduceNeg, Int.reduceLT, Int.reduceLE, Int.reduceEq, Nat.reduceEqDiff, Nat.reduceAdd, Nat.reduceLeDiff, reduceIte, reduceCtorEq, Nat.reduceBEq, tysA, i64, h0, h1, h6, mkV, Mk.next, w1, w2, hlt]
      refine call_one (ht (m'.next 2).2 (b + i * (cD d + 1) + 1) (by omega) (hm'.next 2) (by omega)) rfl rfl rfl rfl rfl (renV_reV _ _) ?_
      simp only [vsA, vsB, vsC, appendWp, Nat.reduceShiftRight, Nat.reduceMod, Nat.reduceLT, Nat.reduceMul, Nat.reduceSub, Int.reduceToNat, Int.reduceNeg, Int.reduceLT, Int.reduceLE, Int.reduceEq, Nat.reduceEqDiff, Nat.reduceAdd, Nat.reduceLeDiff, reduceIte, reduceCtorEq, Nat.reduceBEq, tysA, i64, h0, h1, h5, h6, mkV, Mk.next, w1, w2, hlt]
      refine ⟨fun x hx => by rw [List.mem_singleton.1 hx]; simp [Re.cells_len], ⟨by omega, by omega⟩, 4 - (i + 1), _, _, by omega, Cln.refl, i + 1, ((Mk.tree d) (m'.next 2).2).2, l ++ [((Mk.tree d) (m'.next 2).2).1], rfl, ?_, g1.mono ?_, by simp [hl], ?_, ?_, ?_, ?_, .inr ⟨g + 1, ?_, ?_⟩⟩
      · omega
      · rw [Int.natCast_add, Int.add_mul]; simp; omega
      · simp only [keepE_app, List.contains_cons, List.contains_nil, Nat.reduceBEq, Bool.or_false, Bool.false_or, Bool.or_true, Bool.true_or, updE, trimE_upd, trimE_trim, trimE_app, Nat.reduceShiftRight, Nat.reduceMod, Nat.reduceEqDiff, if_true, if_false, reduceIte]; exact h0
      · simp only [keepE_app, List.contains_cons, List.contains_nil, Nat.reduceBEq, Bool.or_false, Bool.false_or, Bool.or_true, Bool.true_or, updE, trimE_upd, trimE_trim, trimE_app, Nat.reduceShiftRight, Nat.reduceMod, Nat.reduceEqDiff, if_true, if_false, reduceIte]; exact h1
      · simp only [keepE_app, List.contains_cons, List.contains_nil, Nat.reduceBEq, Bool.or_false, Bool.false_or, Bool.or_true, Bool.true_or, updE, trimE_upd, trimE_trim, trimE_app, Nat.reduceShiftRight, Nat.reduceMod, Nat.reduceEqDiff, if_true, if_false, reduceIte]; rw [w64 _ (by omega)]; rfl
      · rw [hk, show 4 - (i + 1) = 3 - i by omega]; simp
      · simp only [keepE_app, List.contains_cons, List.contains_nil, Nat.reduceBEq, Bool.or_false, Bool.false_or, Bool.or_true, Bool.true_or, updE, trimE_upd, trimE_trim, trimE_app, Nat.reduceShiftRight, Nat.reduceMod, Nat.reduceEqDiff, if_true, if_false, reduceIte]
      · simp [hl, ← List.map_take, List.take_of_length_le (Nat.le_of_eq hl)]; exact ⟨rfl, rfl⟩
    · rw [kidsFrom_stop (f := 3 - i) (i := i) (m := m') (by simpa [Mk.next] using hlt)] at hk
      simp only [vsA, vsB, vsC, appendWp, Nat.reduceShiftRight, Nat.reduceMod, Nat.reduceLT, Nat.reduceMul, Nat.reduceSub, Int.reduceToNat, Int.reduceNeg, Int.reduceLT, Int.reduceLE, Int.reduceEq, Nat.reduceEqDiff, Nat.reduceAdd, Nat.reduceLeDiff, reduceIte, reduceCtorEq, Nat.reduceBEq, tysA, i64, h0, h1, h6, mkV]
      refine call_one (next_ok m' hm'.l hpos 2 (by omega)) rfl rfl rfl rfl rfl rfl ?_
      have hle : 0 + i ≤ l.length := by omega
      have htk : ((l.map Re.cells).map fun c => c.map V.d).take i = (l.map Re.cells).map fun c => c.map V.d := List.take_of_length_le (by simp [hl])
      simp only [vsA, vsB, vsC, appendWp, Nat.reduceShiftRight, Nat.reduceMod, Nat.reduceLT, Nat.reduceMul, Nat.reduceSub, Int.reduceToNat, Int.reduceNeg, Int.reduceLT, Int.reduceLE, Int.reduceEq, Nat.reduceEqDiff, Nat.reduceAdd, Nat.reduceLeDiff, reduceIte, reduceCtorEq, Nat.reduceBEq, tysA, i64, h0, h1, h5, h6, mkV, Mk.next, w1, w2, hlt, hle, htk]
      rw [hk]
      exact ⟨rfl, by simp [resD], rfl⟩
end Go.Proofs.Ytafbdphblilenaa

set_option linter.unusedSimpArgs false
set_option linter.unusedVariables false
namespace Go.Proofs.Ytafbdphblilenaa
open Go.VL

set_option maxRecDepth 100000 in
set_option maxHeartbeats 4000000 in
theorem capture_ok (d : Nat) (hd : d ≤ 1000) (ht : TreeOK d) (m : Mk) (b : Int) (hb : 0 ≤ b) (hm : m.In b) (hs : b + (cD d + 2) ≤ 1000000000) :
    callWp Try.prog 103 [mkV, i64 (d + 1 : Nat)] [mkO m] fun v s => v = reV (m.capture (Mk.tree d)).1 ∧ s = [mkO (m.capture (Mk.tree d)).2] := by
  have hc := cD_nonneg d
  have c0 := hm.c0
  have c1 := hm.c1
  have w1 : IntKind.i64.wrap ((d + 1 : Nat) - 1 : Int) = (d : Int) := by rw [w64 _ (by omega)]; omega
  have w2 : IntKind.i64.wrap (m.caps + 1) = m.caps + 1 := w64 _ (by omega)
  have hpos : 0 ≤ m.pos ∧ m.pos ≤ 1000000000 := ⟨hm.p0, by have := hm.p1; omega⟩
  obtain ⟨g1, g2, g3, g4⟩ := capNum_in hm
  refine fn_ok Try.func103 rfl Try.ntmps103 Try.results103 rfl 1 51 (by simp) (by simp) ?_
  have tailM : ∀ m' : Mk, m'.In (b + 2) → m'.caps = m.caps → ∀ n : Int, 1 ≤ n → n ≤ 4 → (m'.withCaps (max m'.caps n)).In (b + 2) := fun m' h he n h1 h2 => ⟨h.l, h.p0, h.p1, h.l0, h.l1, by show 0 ≤ max _ _; omega, by show max _ _ ≤ 4; omega⟩
  by_cases h4 : 4 < m.caps + 1
  · have hp := pick_range m.l m.pos (max 1 m.caps) (by omega)
    have w3 : IntKind.i64.wrap (1 + pick m.l m.pos (max 1 m.caps)) = 1 + pick m.l m.pos (max 1 m.caps) := w64 _ (by omega)
    simp only [vsA, vsB, vsC, appendWp, Nat.reduceShiftRight, Nat.reduceMod, Nat.reduceLT, Nat.reduceMul, Nat.reduceSub, Int.reduceToNat, Int.reduceNeg, Int.reduceLT, Int.reduceLE, Int.reduceEq, Nat.reduceEqDiff, Nat.reduceAdd, Nat.reduceLeDiff, reduceIte, reduceCtorEq, Nat.reduceBEq, tysA, i64, mkV, mkO, w1, w2, h4]
    refine call_one (next_ok m hm.l hpos (max 1 m.caps) (by omega)) rfl rfl rfl rfl rfl rfl ?_
    simp only [vsA, vsB, vsC, appendWp, Nat.reduceShiftRight, Nat.reduceMod, Nat.reduceLT, Nat.reduceMul, Nat.reduceSub, Int.reduceToNat, Int.reduceNeg, Int.reduceLT, Int.reduceLE, Int.reduceEq, Nat.reduceEqDiff, Nat.reduceAdd, Nat.reduceLeDiff, reduceIte, reduceCtorEq, Nat.reduceBEq, tysA, i64, mkV, mkO, w1, w2, h4, Mk.next, w3]
    refine call_one (ht ((m.next (max 1 m.caps)).2.withCaps (max m.caps (1 + pick m.l m.pos (max 1 m.caps)))) (b + 2) (by omega) (tailM _ ((hm.next _).mono (by omega)) rfl _ (by omega) (by omega)) (by omega)) rfl rfl rfl rfl rfl (renV_reV _ _) ?_
    simp only [vsA, vsB, vsC, appendWp, Nat.reduceShiftRight, Nat.reduceMod, Nat.reduceLT, Nat.reduceMul, Nat.reduceSub, Int.reduceToNat, Int.reduceNeg, Int.reduceLT, Int.reduceLE, Int.reduceEq, Nat.reduceEqDiff, Nat.reduceAdd, Nat.reduceLeDiff, reduceIte, reduceCtorEq, Nat.reduceBEq, tysA, i64, mkV, mkO, w1, w2, h4, Mk.next, w3]
    have hcn : capNum m = (1 + pick m.l m.pos (max 1 m.caps), (m.next (max 1 m.caps)).2) := by simp [capNum, h4, Mk.next]
    simp only [Mk.capture, hcn]
    first | exact ⟨rfl, rfl⟩ | exact ⟨rfl, trivial⟩
  by_cases h0 : 0 < m.caps
  · simp only [vsA, vsB, vsC, appendWp, Nat.reduceShiftRight, Nat.reduceMod, Nat.reduceLT, Nat.reduceMul, Nat.reduceSub, Int.reduceToNat, Int.reduceNeg, Int.reduceLT, Int.reduceLE, Int.reduceEq, Nat.reduceEqDiff, Nat.reduceAdd, Nat.reduceLeDiff, reduceIte, reduceCtorEq, Nat.reduceBEq, tysA, i64, mkV, mkO, w1, w2, h4, h0]
    refine call_one (next_ok m hm.l hpos 9 (by omega)) rfl rfl rfl rfl rfl rfl ?_
    by_cases h9 : pick m.l m.pos 9 = 0
    · have hp := pick_range m.l (m.pos + 1) (max 1 m.caps) (by omega)
      have w3 : IntKind.i64.wrap (1 + pick m.l (m.pos + 1) (max 1 m.caps)) = 1 + pick m.l (m.pos + 1) (max 1 m.caps) := w64 _ (by omega)
      simp only [vsA, vsB, vsC, appendWp, Nat.reduceShiftRight, Nat.reduceMod, Nat.reduceLT, Nat.reduceMul, Nat.reduceSub, Int.reduceToNat, Int.reduceNeg, Int.reduceLT, Int.reduceLE, Int.reduceEq, Nat.reduceEqDiff, Nat.reduceAdd, Nat.reduceLeDiff, reduceIte, reduceCtorEq, Nat.reduceBEq, tysA, i64, mkV, mkO, w1, w2, h4, Mk.next, h9]
      refine call_one (next_ok (m.next 9).2 hm.l (by have := hm.p1; simp only [Mk.next]; omega) (max 1 m.caps) (by omega)) rfl rfl rfl rfl rfl rfl ?_
      simp only [vsA, vsB, vsC, appendWp, Nat.reduceShiftRight, Nat.reduceMod, Nat.reduceLT, Nat.reduceMul, Nat.reduceSub, Int.reduceToNat, Int.reduceNeg, Int.reduceLT, Int.reduceLE, Int.reduceEq, Nat.reduceEqDiff, Nat.reduceAdd, Nat.reduceLeDiff, reduceIte, reduceCtorEq, Nat.reduceBEq, tysA, i64, mkV, mkO, w1, w2, h4, Mk.next, w3]
      refine call_one (ht (((m.next 9).2.next (max 1 m.caps)).2.withCaps (max m.caps (1 + pick m.l (m.pos + 1) (max 1 m.caps)))) (b + 2) (by omega) (tailM _ (((hm.next 9).next _).mono (by omega)) rfl _ (by omega) (by omega)) (by omega)) rfl rfl rfl rfl rfl (renV_reV _ _) ?_
      simp only [vsA, vsB, vsC, appendWp, Nat.reduceShiftRight, Nat.reduceMod, Nat.reduceLT, Nat.reduceMul, Nat.reduceSub, Int.reduceToNat, Int.reduceNeg, Int.reduceLT, Int.reduceLE, Int.reduceEq, Nat.reduceEqDiff, Nat.reduceAdd, Nat.reduceLeDiff, reduceIte, reduceCtorEq, Nat.reduceBEq, tysA, i64, mkV, mkO, w1, w2, h4, Mk.next, w3]
      have hcn : capNum m = (1 + pick m.l (m.pos + 1) (max 1 m.caps), ((m.next 9).2.next (max 1 m.caps)).2) := by simp [capNum, h4, h0, h9, Mk.next]
      simp only [Mk.capture, hcn]
      first | exact ⟨rfl, rfl⟩ | exact ⟨rfl, trivial⟩
    · simp only [vsA, vsB, vsC, appendWp, Nat.reduceShiftRight, Nat.reduceMod, Nat.reduceLT, Nat.reduceMul, Nat.reduceSub, Int.reduceToNat, Int.reduceNeg, Int.reduceLT, Int.reduceLE, Int.reduceEq, Nat.reduceEqDiff, Nat.reduceAdd, Nat.reduceLeDiff, reduceIte, reduceCtorEq, Nat.reduceBEq, tysA, i64, mkV, mkO, w1, w2, h4, Mk.next, h9]
      refine call_one (ht ((m.next 9).2.withCaps (max m.caps (m.caps + 1))) (b + 2) (by omega) (tailM _ ((hm.next 9).mono (by omega)) rfl _ (by omega) (by omega)) (by omega)) rfl rfl rfl rfl rfl (renV_reV _ _) ?_
      simp only [vsA, vsB, vsC, appendWp, Nat.reduceShiftRight, Nat.reduceMod, Nat.reduceLT, Nat.reduceMul, Nat.reduceSub, Int.reduceToNat, Int.reduceNeg, Int.reduceLT, Int.reduceLE, Int.reduceEq, Nat.reduceEqDiff, Nat.reduceAdd, Nat.reduceLeDiff, reduceIte, reduceCtorEq, Nat.reduceBEq, tysA, i64, mkV, mkO, w1, w2, h4, Mk.next]
      have hcn : capNum m = (m.caps + 1, (m.next 9).2) := by simp [capNum, h4, h0, h9, Mk.next]
      simp only [Mk.capture, hcn]
      first | exact ⟨rfl, rfl⟩ | exact ⟨rfl, trivial⟩
  · simp only [vsA, vsB, vsC, appendWp, Nat.reduceShiftRight, Nat.reduceMod, Nat.reduceLT, Nat.reduceMul, Nat.reduceSub, Int.reduceToNat, Int.reduceNeg, Int.reduceLT, Int.reduceLE, Int.reduceEq, Nat.reduceEqDiff, Nat.reduceAdd, Nat.reduceLeDiff, reduceIte, reduceCtorEq, Nat.reduceBEq, tysA, i64, mkV, mkO, w1, w2, h4, h0]
    refine call_one (ht (m.withCaps (max m.caps (m.caps + 1))) (b + 2) (by omega) (tailM _ (hm.mono (by omega)) rfl _ (by omega) (by omega)) (by omega)) rfl rfl rfl rfl rfl (renV_reV _ _) ?_
    simp only [vsA, vsB, vsC, appendWp, Nat.reduceShiftRight, Nat.reduceMod, Nat.reduceLT, Nat.reduceMul, Nat.reduceSub, Int.reduceToNat, Int.reduceNeg, Int.reduceLT, Int.reduceLE, Int.reduceEq, Nat.reduceEqDiff, Nat.reduceAdd, Nat.reduceLeDiff, reduceIte, reduceCtorEq, Nat.reduceBEq, tysA, i64, mkV, mkO, w1, w2, h4]
    have hcn : capNum m = (m.caps + 1, m) := by simp [capNum, h4, h0]
    simp only [Mk.capture, hcn]
    first | exact ⟨rfl, rfl⟩ | exact ⟨rfl, trivial⟩
end Go.Proofs.Ytafbdphblilenaa

set_option linter.unusedSimpArgs false
set_option linter.unusedVariables false
namespace Go.Proofs.Ytafbdphblilenaa
open Go.VL

set_option maxRecDepth 100000 in
set_option maxHeartbeats 4000000 in
theorem rep_ok (d : Nat) (hd : d ≤ 1000) (ht : TreeOK d) (m : Mk) (b : Int) (hb : 0 ≤ b) (hm : m.In b) (hs : b + (cD d + 4) ≤ 1000000000) (hz : zD d ≤ 1000000000) :
    callWp Try.prog 102 [mkV, i64 (d + 1 : Nat)] [mkO m] fun v s => v = reV (m.rep (Mk.tree d)).1 ∧ s = [mkO (m.rep (Mk.tree d)).2] := by
  have hc := cD_nonneg d
  have w1 : IntKind.i64.wrap ((d + 1 : Nat) - 1 : Int) = (d : Int) := by rw [w64 _ (by omega)]; omega
  have hpos : 0 ≤ m.pos ∧ m.pos ≤ 1000000000 := ⟨hm.p0, by have := hm.p1; omega⟩
  have hk := pick_range m.l m.pos 12 (by omega)
  have hkn : (pick m.l m.pos 12).toNat < 12 := by omega
  have hmins : ([[D.sc (Value.int IntKind.i64 0)], [D.sc (Value.int IntKind.i64 0)], [D.sc (Value.int IntKind.i64 0)], [D.sc (Value.int IntKind.i64 0)], [D.sc (Value.int IntKind.i64 1)], [D.sc (Value.int IntKind.i64 1)], [D.sc (Value.int IntKind.i64 1)], [D.sc (Value.int IntKind.i64 0)], [D.sc (Value.int IntKind.i64 2)], [D.sc (Value.int IntKind.i64 0)], [D.sc (Value.int IntKind.i64 1)], [D.sc (Value.int IntKind.i64 2)]] : List (List D))[(pick m.l m.pos 12).toNat]? = some [D.sc (Value.int IntKind.i64 ((repMins[(pick m.l m.pos 12).toNat]?).getD 0))] := by
    rw [show ([[D.sc (Value.int IntKind.i64 0)], [D.sc (Value.int IntKind.i64 0)], [D.sc (Value.int IntKind.i64 0)], [D.sc (Value.int IntKind.i64 0)], [D.sc (Value.int IntKind.i64 1)], [D.sc (Value.int IntKind.i64 1)], [D.sc (Value.int IntKind.i64 1)], [D.sc (Value.int IntKind.i64 0)], [D.sc (Value.int IntKind.i64 2)], [D.sc (Value.int IntKind.i64 0)], [D.sc (Value.int IntKind.i64 1)], [D.sc (Value.int IntKind.i64 2)]] : List (List D)) = repMins.map (fun x => [D.sc (Value.int IntKind.i64 x)]) from rfl, List.getElem?_map, List.getElem?_eq_getElem (show (pick m.l m.pos 12).toNat < repMins.length from hkn)]; rfl
  have hmaxs : ([[D.sc (Value.int IntKind.i64 (-1))], [D.sc (Value.int IntKind.i64 (-1))], [D.sc (Value.int IntKind.i64 (-1))], [D.sc (Value.int IntKind.i64 1)], [D.sc (Value.int IntKind.i64 (-1))], [D.sc (Value.int IntKind.i64 (-1))], [D.sc (Value.int IntKind.i64 2)], [D.sc (Value.int IntKind.i64 2)], [D.sc (Value.int IntKind.i64 2)], [D.sc (Value.int IntKind.i64 3)], [D.sc (Value.int IntKind.i64 1)], [D.sc (Value.int IntKind.i64 (-1))]] : List (List D))[(pick m.l m.pos 12).toNat]? = some [D.sc (Value.int IntKind.i64 ((repMaxs[(pick m.l m.pos 12).toNat]?).getD 0))] := by
    rw [show ([[D.sc (Value.int IntKind.i64 (-1))], [D.sc (Value.int IntKind.i64 (-1))], [D.sc (Value.int IntKind.i64 (-1))], [D.sc (Value.int IntKind.i64 1)], [D.sc (Value.int IntKind.i64 (-1))], [D.sc (Value.int IntKind.i64 (-1))], [D.sc (Value.int IntKind.i64 2)], [D.sc (Value.int IntKind.i64 2)], [D.sc (Value.int IntKind.i64 2)], [D.sc (Value.int IntKind.i64 3)], [D.sc (Value.int IntKind.i64 1)], [D.sc (Value.int IntKind.i64 (-1))]] : List (List D)) = repMaxs.map (fun x => [D.sc (Value.int IntKind.i64 x)]) from rfl, List.getElem?_map, List.getElem?_eq_getElem (show (pick m.l m.pos 12).toNat < repMaxs.length from hkn)]; rfl
  refine fn_ok Try.func102 rfl Try.ntmps102 Try.results102 rfl 1 243 (by simp) (by simp) ?_
  simp only [vsA, vsB, vsC, appendWp, Nat.reduceShiftRight, Nat.reduceMod, Nat.reduceLT, Nat.reduceMul, Nat.reduceSub, Int.reduceToNat, Int.reduceNeg, Int.reduceLT, Int.reduceLE, Int.reduceEq, Nat.reduceEqDiff, Nat.reduceAdd, Nat.reduceLeDiff, reduceIte, reduceCtorEq, Nat.reduceBEq, tysA, i64, mkV, mkO, w1]
  refine call_one (next_ok m hm.l hpos 12 (by omega)) rfl rfl rfl rfl rfl rfl ?_
  simp only [vsA, vsB, vsC, appendWp, Nat.reduceShiftRight, Nat.reduceMod, Nat.reduceLT, Nat.reduceMul, Nat.reduceSub, Int.reduceToNat, Int.reduceNeg, Int.reduceLT, Int.reduceLE, Int.reduceEq, Nat.reduceEqDiff, Nat.reduceAdd, Nat.reduceLeDiff, reduceIte, reduceCtorEq, Nat.reduceBEq, tysA, i64, mkV, mkO, w1, Mk.next]
  refine draw_first Cln0.reserve ?_
  refine draw_c mix [12] [(9, [0], [0]), (11, [2], [2])] (by rfl) ?_
  simp only [vsA, vsB, vsC, appendWp, Nat.reduceShiftRight, Nat.reduceMod, Nat.reduceLT, Nat.reduceMul, Nat.reduceSub, Int.reduceToNat, Int.reduceNeg, Int.reduceLT, Int.reduceLE, Int.reduceEq, Nat.reduceEqDiff, Nat.reduceAdd, Nat.reduceLeDiff, reduceIte, reduceCtorEq, Nat.reduceBEq, tysA, i64, mkV, mkO, w1, Mk.next, hmins, hmaxs]
  refine ⟨hk.1, by omega, hk.1, by omega, ?_⟩
  refine callF_one (next_ok (m.next 12).2 hm.l (by have := hm.p1; simp only [Mk.next]; omega) 2 (by omega)) rfl rfl rfl rfl rfl rfl ?_
  by_cases h8 : 0 < bitV .and .i64 m.uses 8
  · simp only [vsA, vsB, vsC, appendWp, Nat.reduceShiftRight, Nat.reduceMod, Nat.reduceLT, Nat.reduceMul, Nat.reduceSub, Int.reduceToNat, Int.reduceNeg, Int.reduceLT, Int.reduceLE, Int.reduceEq, Nat.reduceEqDiff, Nat.reduceAdd, Nat.reduceLeDiff, reduceIte, reduceCtorEq, Nat.reduceBEq, tysA, i64, mkV, mkO, w1, Mk.next, hmins, hmaxs, h8]
    refine call_one (next_ok ((m.next 12).2.next 2).2 hm.l (by have := hm.p1; simp only [Mk.next]; omega) 4 (by omega)) rfl rfl rfl rfl rfl rfl ?_
    by_cases h4 : pick m.l (m.pos + 1 + 1) 4 = 0
    · simp only [vsA, vsB, vsC, appendWp, Nat.reduceShiftRight, Nat.reduceMod, Nat.reduceLT, Nat.reduceMul, Nat.reduceSub, Int.reduceToNat, Int.reduceNeg, Int.reduceLT, Int.reduceLE, Int.reduceEq, Nat.reduceEqDiff, Nat.reduceAdd, Nat.reduceLeDiff, reduceIte, reduceCtorEq, Nat.reduceBEq, tysA, i64, mkV, mkO, w1, Mk.next, h4]
      obtain ⟨g1, g2⟩ := tree_good d (((m.next 12).2.next 2).2.next 4).2 (b + 3) (by omega) ((((hm.next 12).next 2).next 4).mono (by omega))
      refine call_one (ht (((m.next 12).2.next 2).2.next 4).2 (b + 3) (by omega) ((((hm.next 12).next 2).next 4).mono (by omega)) (by omega)) rfl rfl rfl rfl rfl (renV_reV _ _) ?_
      have hrm : repMode (m.next 12).2 = (2, (((m.next 12).2.next 2).2.next 4).2) := by simp [repMode, Mk.has, h8, Mk.next, h4]
      have hrep : m.rep (Mk.tree d) = (.mk 4 [] [(repKid (Mk.tree d) (((m.next 12).2.next 2).2.next 4).2).1] ((repMins[(pick m.l m.pos 12).toNat]?).getD 0) ((repMaxs[(pick m.l m.pos 12).toNat]?).getD 0) 2 0 false, (repKid (Mk.tree d) (((m.next 12).2.next 2).2.next 4).2).2) := by simp only [Mk.rep, hrm]; rfl
      have hrk : repKid (Mk.tree d) (((m.next 12).2.next 2).2.next 4).2 = if bitV .and .i64 (Mk.tree d (((m.next 12).2.next 2).2.next 4).2).2.uses 32 = 0 ∧ (Mk.tree d (((m.next 12).2.next 2).2.next 4).2).1.nul = true then (Mk.tree d (((m.next 12).2.next 2).2.next 4).2).2.set else Mk.tree d (((m.next 12).2.next 2).2.next 4).2 := rfl
      rw [hrep, hrk]
      generalize Mk.tree d (((m.next 12).2.next 2).2.next 4).2 = R at *
      by_cases h32 : bitV .and .i64 R.2.uses 32 = 0
      · simp only [vsA, vsB, vsC, appendWp, Nat.reduceShiftRight, Nat.reduceMod, Nat.reduceLT, Nat.reduceMul, Nat.reduceSub, Int.reduceToNat, Int.reduceNeg, Int.reduceLT, Int.reduceLE, Int.reduceEq, Nat.reduceEqDiff, Nat.reduceAdd, Nat.reduceLeDiff, reduceIte, reduceCtorEq, Nat.reduceBEq, tysA, i64, mkV, mkO, w1, Mk.next, h32]
        refine call_pure (refNullable_ok R.1 (by omega)) (by simp [refsV, refsV.go, reV_eq, i64, bV, reEl]) (by simp [refsV, refsV.go, reV_eq, i64, bV, reEl]) ?_
        cases hn : R.1.nul with
        | true =>
          simp only [vsA, vsB, vsC, appendWp, Nat.reduceShiftRight, Nat.reduceMod, Nat.reduceLT, Nat.reduceMul, Nat.reduceSub, Int.reduceToNat, Int.reduceNeg, Int.reduceLT, Int.reduceLE, Int.reduceEq, Nat.reduceEqDiff, Nat.reduceAdd, Nat.reduceLeDiff, reduceIte, reduceCtorEq, Nat.reduceBEq, tysA, i64, bV, mkV, mkO, w1, Mk.next, h32, hn]
          refine call_one (set_ok R.2 g1.l ⟨g1.p0, by have := g1.p1; omega⟩) rfl rfl rfl rfl rfl (renV_reV _ _) ?_
          simp only [vsA, vsB, vsC, appendWp, Nat.reduceShiftRight, Nat.reduceMod, Nat.reduceLT, Nat.reduceMul, Nat.reduceSub, Int.reduceToNat, Int.reduceNeg, Int.reduceLT, Int.reduceLE, Int.reduceEq, Nat.reduceEqDiff, Nat.reduceAdd, Nat.reduceLeDiff, reduceIte, reduceCtorEq, Nat.reduceBEq, tysA, i64, bV, mkV, mkO, w1, Mk.next, h32, hn]
          all_goals first | exact ⟨rfl, rfl⟩ | exact ⟨rfl, trivial⟩ | rfl | trivial | (rw [reV_eq]; rfl)
        | false =>
          simp only [vsA, vsB, vsC, appendWp, Nat.reduceShiftRight, Nat.reduceMod, Nat.reduceLT, Nat.reduceMul, Nat.reduceSub, Int.reduceToNat, Int.reduceNeg, Int.reduceLT, Int.reduceLE, Int.reduceEq, Nat.reduceEqDiff, Nat.reduceAdd, Nat.reduceLeDiff, reduceIte, reduceCtorEq, Nat.reduceBEq, tysA, i64, bV, mkV, mkO, w1, Mk.next, h32, hn]
          all_goals first | exact ⟨rfl, rfl⟩ | exact ⟨rfl, trivial⟩ | rfl | trivial | (rw [reV_eq]; rfl)
      · simp only [vsA, vsB, vsC, appendWp, Nat.reduceShiftRight, Nat.reduceMod, Nat.reduceLT, Nat.reduceMul, Nat.reduceSub, Int.reduceToNat, Int.reduceNeg, Int.reduceLT, Int.reduceLE, Int.reduceEq, Nat.reduceEqDiff, Nat.reduceAdd, Nat.reduceLeDiff, reduceIte, reduceCtorEq, Nat.reduceBEq, tysA, i64, mkV, mkO, w1, Mk.next, h32]
        all_goals first | exact ⟨rfl, rfl⟩ | exact ⟨rfl, trivial⟩ | rfl | trivial | (rw [reV_eq]; rfl)
    · simp only [vsA, vsB, vsC, appendWp, Nat.reduceShiftRight, Nat.reduceMod, Nat.reduceLT, Nat.reduceMul, Nat.reduceSub, Int.reduceToNat, Int.reduceNeg, Int.reduceLT, Int.reduceLE, Int.reduceEq, Nat.reduceEqDiff, Nat.reduceAdd, Nat.reduceLeDiff, reduceIte, reduceCtorEq, Nat.reduceBEq, tysA, i64, mkV, mkO, w1, Mk.next, h4]
      obtain ⟨g1, g2⟩ := tree_good d (((m.next 12).2.next 2).2.next 4).2 (b + 3) (by omega) ((((hm.next 12).next 2).next 4).mono (by omega))
      refine call_one (ht (((m.next 12).2.next 2).2.next 4).2 (b + 3) (by omega) ((((hm.next 12).next 2).next 4).mono (by omega)) (by omega)) rfl rfl rfl rfl rfl (renV_reV _ _) ?_
      have hrm : repMode (m.next 12).2 = ((pick m.l (m.pos + 1) 2), (((m.next 12).2.next 2).2.next 4).2) := by simp [repMode, Mk.has, h8, Mk.next, h4]
      have hrep : m.rep (Mk.tree d) = (.mk 4 [] [(repKid (Mk.tree d) (((m.next 12).2.next 2).2.next 4).2).1] ((repMins[(pick m.l m.pos 12).toNat]?).getD 0) ((repMaxs[(pick m.l m.pos 12).toNat]?).getD 0) (pick m.l (m.pos + 1) 2) 0 false, (repKid (Mk.tree d) (((m.next 12).2.next 2).2.next 4).2).2) := by simp only [Mk.rep, hrm]; rfl
      have hrk : repKid (Mk.tree d) (((m.next 12).2.next 2).2.next 4).2 = if bitV .and .i64 (Mk.tree d (((m.next 12).2.next 2).2.next 4).2).2.uses 32 = 0 ∧ (Mk.tree d (((m.next 12).2.next 2).2.next 4).2).1.nul = true then (Mk.tree d (((m.next 12).2.next 2).2.next 4).2).2.set else Mk.tree d (((m.next 12).2.next 2).2.next 4).2 := rfl
      rw [hrep, hrk]
      generalize Mk.tree d (((m.next 12).2.next 2).2.next 4).2 = R at *
      by_cases h32 : bitV .and .i64 R.2.uses 32 = 0
      · simp only [vsA, vsB, vsC, appendWp, Nat.reduceShiftRight, Nat.reduceMod, Nat.reduceLT, Nat.reduceMul, Nat.reduceSub, Int.reduceToNat, Int.reduceNeg, Int.reduceLT, Int.reduceLE, Int.reduceEq, Nat.reduceEqDiff, Nat.reduceAdd, Nat.reduceLeDiff, reduceIte, reduceCtorEq, Nat.reduceBEq, tysA, i64, mkV, mkO, w1, Mk.next, h32]
        refine call_pure (refNullable_ok R.1 (by omega)) (by simp [refsV, refsV.go, reV_eq, i64, bV, reEl]) (by simp [refsV, refsV.go, reV_eq, i64, bV, reEl]) ?_
        cases hn : R.1.nul with
        | true =>
          simp only [vsA, vsB, vsC, appendWp, Nat.reduceShiftRight, Nat.reduceMod, Nat.reduceLT, Nat.reduceMul, Nat.reduceSub, Int.reduceToNat, Int.reduceNeg, Int.reduceLT, Int.reduceLE, Int.reduceEq, Nat.reduceEqDiff, Nat.reduceAdd, Nat.reduceLeDiff, reduceIte, reduceCtorEq, Nat.reduceBEq, tysA, i64, bV, mkV, mkO, w1, Mk.next, h32, hn]
          refine call_one (set_ok R.2 g1.l ⟨g1.p0, by have := g1.p1; omega⟩) rfl rfl rfl rfl rfl (renV_reV _ _) ?_
          simp only [vsA, vsB, vsC, appendWp, Nat.reduceShiftRight, Nat.reduceMod, Nat.reduceLT, Nat.reduceMul, Nat.reduceSub, Int.reduceToNat, Int.reduceNeg, Int.reduceLT, Int.reduceLE, Int.reduceEq, Nat.reduceEqDiff, Nat.reduceAdd, Nat.reduceLeDiff, reduceIte, reduceCtorEq, Nat.reduceBEq, tysA, i64, bV, mkV, mkO, w1, Mk.next, h32, hn]
          all_goals first | exact ⟨rfl, rfl⟩ | exact ⟨rfl, trivial⟩ | rfl | trivial | (rw [reV_eq]; rfl)
        | false =>
          simp only [vsA, vsB, vsC, appendWp, Nat.reduceShiftRight, Nat.reduceMod, Nat.reduceLT, Nat.reduceMul, Nat.reduceSub, Int.reduceToNat, Int.reduceNeg, Int.reduceLT, Int.reduceLE, Int.reduceEq, Nat.reduceEqDiff, Nat.reduceAdd, Nat.reduceLeDiff, reduceIte, reduceCtorEq, Nat.reduceBEq, tysA, i64, bV, mkV, mkO, w1, Mk.next, h32, hn]
          all_goals first | exact ⟨rfl, rfl⟩ | exact ⟨rfl, trivial⟩ | rfl | trivial | (rw [reV_eq]; rfl)
      · simp only [vsA, vsB, vsC, appendWp, Nat.reduceShiftRight, Nat.reduceMod, Nat.reduceLT, Nat.reduceMul, Nat.reduceSub, Int.reduceToNat, Int.reduceNeg, Int.reduceLT, Int.reduceLE, Int.reduceEq, Nat.reduceEqDiff, Nat.reduceAdd, Nat.reduceLeDiff, reduceIte, reduceCtorEq, Nat.reduceBEq, tysA, i64, mkV, mkO, w1, Mk.next, h32]
        all_goals first | exact ⟨rfl, rfl⟩ | exact ⟨rfl, trivial⟩ | rfl | trivial | (rw [reV_eq]; rfl)
  · simp only [vsA, vsB, vsC, appendWp, Nat.reduceShiftRight, Nat.reduceMod, Nat.reduceLT, Nat.reduceMul, Nat.reduceSub, Int.reduceToNat, Int.reduceNeg, Int.reduceLT, Int.reduceLE, Int.reduceEq, Nat.reduceEqDiff, Nat.reduceAdd, Nat.reduceLeDiff, reduceIte, reduceCtorEq, Nat.reduceBEq, tysA, i64, mkV, mkO, w1, Mk.next, hmins, hmaxs, h8]
    obtain ⟨g1, g2⟩ := tree_good d ((m.next 12).2.next 2).2 (b + 3) (by omega) (((hm.next 12).next 2).mono (by omega))
    refine call_one (ht ((m.next 12).2.next 2).2 (b + 3) (by omega) (((hm.next 12).next 2).mono (by omega)) (by omega)) rfl rfl rfl rfl rfl (renV_reV _ _) ?_
    have hrm : repMode (m.next 12).2 = ((pick m.l (m.pos + 1) 2), ((m.next 12).2.next 2).2) := by simp [repMode, Mk.has, h8, Mk.next]
    have hrep : m.rep (Mk.tree d) = (.mk 4 [] [(repKid (Mk.tree d) ((m.next 12).2.next 2).2).1] ((repMins[(pick m.l m.pos 12).toNat]?).getD 0) ((repMaxs[(pick m.l m.pos 12).toNat]?).getD 0) (pick m.l (m.pos + 1) 2) 0 false, (repKid (Mk.tree d) ((m.next 12).2.next 2).2).2) := by simp only [Mk.rep, hrm]; rfl
    have hrk : repKid (Mk.tree d) ((m.next 12).2.next 2).2 = if bitV .and .i64 (Mk.tree d ((m.next 12).2.next 2).2).2.uses 32 = 0 ∧ (Mk.tree d ((m.next 12).2.next 2).2).1.nul = true then (Mk.tree d ((m.next 12).2.next 2).2).2.set else Mk.tree d ((m.next 12).2.next 2).2 := rfl
    rw [hrep, hrk]
    generalize Mk.tree d ((m.next 12).2.next 2).2 = R at *
    by_cases h32 : bitV .and .i64 R.2.uses 32 = 0
    · simp only [vsA, vsB, vsC, appendWp, Nat.reduceShiftRight, Nat.reduceMod, Nat.reduceLT, Nat.reduceMul, Nat.reduceSub, Int.reduceToNat, Int.reduceNeg, Int.reduceLT, Int.reduceLE, Int.reduceEq, Nat.reduceEqDiff, Nat.reduceAdd, Nat.reduceLeDiff, reduceIte, reduceCtorEq, Nat.reduceBEq, tysA, i64, mkV, mkO, w1, Mk.next, h32]
      refine call_pure (refNullable_ok R.1 (by omega)) (by simp [refsV, refsV.go, reV_eq, i64, bV, reEl]) (by simp [refsV, refsV.go, reV_eq, i64, bV, reEl]) ?_
      cases hn : R.1.nul with
      | true =>
        simp only [vsA, vsB, vsC, appendWp, Nat.reduceShiftRight, Nat.reduceMod, Nat.reduceLT, Nat.reduceMul, Nat.reduceSub, Int.reduceToNat, Int.reduceNeg, Int.reduceLT, Int.reduceLE, Int.reduceEq, Nat.reduceEqDiff, Nat.reduceAdd, Nat.reduceLeDiff, reduceIte, reduceCtorEq, Nat.reduceBEq, tysA, i64, bV, mkV, mkO, w1, Mk.next, h32, hn]
        refine call_one (set_ok R.2 g1.l ⟨g1.p0, by have := g1.p1; omega⟩) rfl rfl rfl rfl rfl (renV_reV _ _) ?_
        simp only [vsA, vsB, vsC, appendWp, Nat.reduceShiftRight, Nat.reduceMod, Nat.reduceLT, Nat.reduceMul, Nat.reduceSub, Int.reduceToNat, Int.reduceNeg, Int.reduceLT, Int.reduceLE, Int.reduceEq, Nat.reduceEqDiff, Nat.reduceAdd, Nat.reduceLeDiff, reduceIte, reduceCtorEq, Nat.reduceBEq, tysA, i64, bV, mkV, mkO, w1, Mk.next, h32, hn]
        all_goals first | exact ⟨rfl, rfl⟩ | exact ⟨rfl, trivial⟩ | rfl | trivial | (rw [reV_eq]; rfl)
      | false =>
        simp only [vsA, vsB, vsC, appendWp, Nat.reduceShiftRight, Nat.reduceMod, Nat.reduceLT, Nat.reduceMul, Nat.reduceSub, Int.reduceToNat, Int.reduceNeg, Int.reduceLT, Int.reduceLE, Int.reduceEq, Nat.reduceEqDiff, Nat.reduceAdd, Nat.reduceLeDiff, reduceIte, reduceCtorEq, Nat.reduceBEq, tysA, i64, bV, mkV, mkO, w1, Mk.next, h32, hn]
        all_goals first | exact ⟨rfl, rfl⟩ | exact ⟨rfl, trivial⟩ | rfl | trivial | (rw [reV_eq]; rfl)
    · simp only [vsA, vsB, vsC, appendWp, Nat.reduceShiftRight, Nat.reduceMod, Nat.reduceLT, Nat.reduceMul, Nat.reduceSub, Int.reduceToNat, Int.reduceNeg, Int.reduceLT, Int.reduceLE, Int.reduceEq, Nat.reduceEqDiff, Nat.reduceAdd, Nat.reduceLeDiff, reduceIte, reduceCtorEq, Nat.reduceBEq, tysA, i64, mkV, mkO, w1, Mk.next, h32]
      all_goals first | exact ⟨rfl, rfl⟩ | exact ⟨rfl, trivial⟩ | rfl | trivial | (rw [reV_eq]; rfl)
end Go.Proofs.Ytafbdphblilenaa

set_option linter.unusedSimpArgs false
set_option linter.unusedVariables false
namespace Go.Proofs.Ytafbdphblilenaa
open Go.VL

set_option maxRecDepth 100000 in
set_option maxHeartbeats 4000000 in
theorem tree_zero : TreeOK 0 := by
  intro m b hb hm hs
  have hc : cD 0 = 3 := rfl
  have w1 : IntKind.i64.wrap (m.left - 1) = m.left - 1 := w64 _ (by have := hm.l0; have := hm.l1; omega)
  have hpos : 0 ≤ m.pos ∧ m.pos ≤ 1000000000 := ⟨hm.p0, by have := hm.p1; omega⟩
  have hk := pick_range m.l m.pos 20 (by omega)
  refine fn_ok Try.func53 rfl Try.ntmps53 Try.results53 rfl 1 499 (by simp) (by simp) ?_
  simp only [vsA, vsB, vsC, appendWp, Nat.reduceShiftRight, Nat.reduceMod, Nat.reduceLT, Nat.reduceMul, Nat.reduceSub, Int.reduceToNat, Int.reduceNeg, Int.reduceLT, Int.reduceLE, Int.reduceEq, Nat.reduceEqDiff, Nat.reduceAdd, Nat.reduceLeDiff, reduceIte, reduceCtorEq, Nat.reduceBEq, tysA, i64, mkV, mkO, w1]
  refine call_one (next_ok m.less hm.l hpos 20 (by omega)) rfl rfl rfl rfl rfl rfl ?_
  simp only [vsA, vsB, vsC, appendWp, Nat.reduceShiftRight, Nat.reduceMod, Nat.reduceLT, Nat.reduceMul, Nat.reduceSub, Int.reduceToNat, Int.reduceNeg, Int.reduceLT, Int.reduceLE, Int.reduceEq, Nat.reduceEqDiff, Nat.reduceAdd, Nat.reduceLeDiff, reduceIte, reduceCtorEq, Nat.reduceBEq, tysA, i64, mkV, mkO, w1, Mk.next, Mk.less]
  refine draw_c mix [] [] (by rfl) ?_
  by_cases h0 : pick m.l m.pos 20 = 0
  · simp only [vsA, vsB, vsC, appendWp, Nat.reduceShiftRight, Nat.reduceMod, Nat.reduceLT, Nat.reduceMul, Nat.reduceSub, Int.reduceToNat, Int.reduceNeg, Int.reduceLT, Int.reduceLE, Int.reduceEq, Nat.reduceEqDiff, Nat.reduceAdd, Nat.reduceLeDiff, reduceIte, reduceCtorEq, Nat.reduceBEq, tysA, i64, mkV, mkO, w1, Mk.next, h0, Int.natCast_zero]
    rw [show Mk.tree 0 m = (Re.node 0 [], (m.less.next 20).2) by simp [Mk.tree, Mk.next, Mk.less, h0]]
    all_goals first | exact ⟨rfl, rfl⟩ | exact ⟨rfl, trivial⟩ | rfl | trivial | (rw [reV_eq]; rfl)
  · simp only [vsA, vsB, vsC, appendWp, Nat.reduceShiftRight, Nat.reduceMod, Nat.reduceLT, Nat.reduceMul, Nat.reduceSub, Int.reduceToNat, Int.reduceNeg, Int.reduceLT, Int.reduceLE, Int.reduceEq, Nat.reduceEqDiff, Nat.reduceAdd, Nat.reduceLeDiff, reduceIte, reduceCtorEq, Nat.reduceBEq, tysA, i64, mkV, mkO, w1, Mk.next, h0, Int.natCast_zero]
    refine call_one (set_ok (m.less.next 20).2 hm.l (by have := hm.p1; simp only [Mk.next, Mk.less]; omega)) rfl rfl rfl rfl rfl (renV_reV _ _) ?_
    simp only [vsA, vsB, vsC, appendWp, Nat.reduceShiftRight, Nat.reduceMod, Nat.reduceLT, Nat.reduceMul, Nat.reduceSub, Int.reduceToNat, Int.reduceNeg, Int.reduceLT, Int.reduceLE, Int.reduceEq, Nat.reduceEqDiff, Nat.reduceAdd, Nat.reduceLeDiff, reduceIte, reduceCtorEq, Nat.reduceBEq, tysA, i64, mkV, mkO, w1, Mk.next, h0, Int.natCast_zero]
    rw [show Mk.tree 0 m = (m.less.next 20).2.set by simp [Mk.tree, Mk.next, Mk.less, h0]]
    all_goals first | exact ⟨rfl, rfl⟩ | exact ⟨rfl, trivial⟩ | rfl | trivial | (rw [reV_eq]; rfl)

/-! tree_succ: a tree that may have kids, case by case -/

theorem tree_node {d : Nat} {m : Mk} (h3 : ¬ m.left - 1 < 3) (hp : ¬ (m.l.length : Int) < m.pos + 1) : Mk.tree (d + 1) m = Mk.node (Mk.tree d) (pick m.l m.pos 20) (m.less.next 20).2 := by
  simp [Mk.tree, Mk.next, Mk.less, h3, hp]

set_option maxRecDepth 100000 in
set_option maxHeartbeats 8000000 in
theorem tree_leaf1 (d : Nat) (hd : d ≤ 1000) (hz : zD d ≤ 1000000000) (ht : TreeOK d) (m : Mk) (b : Int) (hb : 0 ≤ b) (hm : m.In b) (hs : b + cD (d + 1) ≤ 1000000000) (h3 : m.left - 1 < 3) :
    callWp Try.prog 53 [mkV, i64 (d + 1 : Nat)] [mkO m] fun v s => v = reV (m.tree (d + 1)).1 ∧ s = [mkO (m.tree (d + 1)).2] := by
  have hc := cD_nonneg d
  have hcd : cD (d + 1) = 2 + 4 * (cD d + 1) := rfl
  have w1 : IntKind.i64.wrap (m.left - 1) = m.left - 1 := w64 _ (by have := hm.l0; have := hm.l1; omega)
  have w2 : IntKind.i64.wrap ((d + 1 : Nat) - 1 : Int) = (d : Int) := by rw [w64 _ (by omega)]; omega
  have hd0 : ¬ ((d + 1 : Nat) : Int) = 0 := by omega
  have hpos : 0 ≤ m.pos ∧ m.pos ≤ 1000000000 := ⟨hm.p0, by have := hm.p1; omega⟩
  have hy : (m.less.next 20).2.In (b + 2) := by have := hm.left.next 20; rwa [Int.add_assoc] at this
  have hyp : 0 ≤ (m.less.next 20).2.pos ∧ (m.less.next 20).2.pos ≤ 1000000000 := by have := hm.p1; simp only [Mk.next, Mk.less]; omega
  have c0 := hm.c0
  have c1 := hm.c1
  refine fn_ok Try.func53 rfl Try.ntmps53 Try.results53 rfl 1 499 (by simp) (by simp) ?_
  simp only [vsA, vsB, vsC, appendWp, Nat.reduceShiftRight, Nat.reduceMod, Nat.reduceLT, Nat.reduceMul, Nat.reduceSub, Int.reduceToNat, Int.reduceNeg, Int.reduceLT, Int.reduceLE, Int.reduceEq, Nat.reduceEqDiff, Nat.reduceAdd, Nat.reduceLeDiff, reduceIte, reduceCtorEq, Nat.reduceBEq, tysA, i64, mkV, mkO, w1]
  refine call_one (next_ok m.less hm.l hpos 20 (by omega)) rfl rfl rfl rfl rfl rfl ?_
  simp only [vsA, vsB, vsC, appendWp, Nat.reduceShiftRight, Nat.reduceMod, Nat.reduceLT, Nat.reduceMul, Nat.reduceSub, Int.reduceToNat, Int.reduceNeg, Int.reduceLT, Int.reduceLE, Int.reduceEq, Nat.reduceEqDiff, Nat.reduceAdd, Nat.reduceLeDiff, reduceIte, reduceCtorEq, Nat.reduceBEq, tysA, i64, mkV, mkO, w1, Mk.next, Mk.less]
  refine draw_c mix [] [] (by rfl) ?_
  have hT : Mk.tree (d + 1) m = if pick m.l m.pos 20 = 0 then (Re.node 0 [], (m.less.next 20).2) else (m.less.next 20).2.set := if_pos (.inl h3)
  rw [hT]
  by_cases h0 : pick m.l m.pos 20 = 0
  · simp only [vsA, vsB, vsC, appendWp, Nat.reduceShiftRight, Nat.reduceMod, Nat.reduceLT, Nat.reduceMul, Nat.reduceSub, Int.reduceToNat, Int.reduceNeg, Int.reduceLT, Int.reduceLE, Int.reduceEq, Nat.reduceEqDiff, Nat.reduceAdd, Nat.reduceLeDiff, reduceIte, reduceCtorEq, Nat.reduceBEq, tysA, i64, mkV, mkO, w1, Mk.next, hd0, h3, h0]
    all_goals first | exact ⟨rfl, rfl⟩ | exact ⟨rfl, trivial⟩ | rfl | trivial | (rw [reV_eq]; rfl)
  · simp only [vsA, vsB, vsC, appendWp, Nat.reduceShiftRight, Nat.reduceMod, Nat.reduceLT, Nat.reduceMul, Nat.reduceSub, Int.reduceToNat, Int.reduceNeg, Int.reduceLT, Int.reduceLE, Int.reduceEq, Nat.reduceEqDiff, Nat.reduceAdd, Nat.reduceLeDiff, reduceIte, reduceCtorEq, Nat.reduceBEq, tysA, i64, mkV, mkO, w1, Mk.next, hd0, h3, h0]
    refine call_one (set_ok (m.less.next 20).2 hm.l hyp) rfl rfl rfl rfl rfl (renV_reV _ _) ?_
    simp only [vsA, vsB, vsC, appendWp, Nat.reduceShiftRight, Nat.reduceMod, Nat.reduceLT, Nat.reduceMul, Nat.reduceSub, Int.reduceToNat, Int.reduceNeg, Int.reduceLT, Int.reduceLE, Int.reduceEq, Nat.reduceEqDiff, Nat.reduceAdd, Nat.reduceLeDiff, reduceIte, reduceCtorEq, Nat.reduceBEq, tysA, i64, mkV, mkO, w1, Mk.next, hd0, h3, h0]
    all_goals first | exact ⟨rfl, rfl⟩ | exact ⟨rfl, trivial⟩ | rfl | trivial | (rw [reV_eq]; rfl)

set_option maxRecDepth 100000 in
set_option maxHeartbeats 8000000 in
theorem tree_leaf2 (d : Nat) (hd : d ≤ 1000) (hz : zD d ≤ 1000000000) (ht : TreeOK d) (m : Mk) (b : Int) (hb : 0 ≤ b) (hm : m.In b) (hs : b + cD (d + 1) ≤ 1000000000) (h3 : ¬ m.left - 1 < 3) (hlp : (m.l.length : Int) < m.pos + 1) :
    callWp Try.prog 53 [mkV, i64 (d + 1 : Nat)] [mkO m] fun v s => v = reV (m.tree (d + 1)).1 ∧ s = [mkO (m.tree (d + 1)).2] := by
  have hc := cD_nonneg d
  have hcd : cD (d + 1) = 2 + 4 * (cD d + 1) := rfl
  have w1 : IntKind.i64.wrap (m.left - 1) = m.left - 1 := w64 _ (by have := hm.l0; have := hm.l1; omega)
  have w2 : IntKind.i64.wrap ((d + 1 : Nat) - 1 : Int) = (d : Int) := by rw [w64 _ (by omega)]; omega
  have hd0 : ¬ ((d + 1 : Nat) : Int) = 0 := by omega
  have hpos : 0 ≤ m.pos ∧ m.pos ≤ 1000000000 := ⟨hm.p0, by have := hm.p1; omega⟩
  have hy : (m.less.next 20).2.In (b + 2) := by have := hm.left.next 20; rwa [Int.add_assoc] at this
  have hyp : 0 ≤ (m.less.next 20).2.pos ∧ (m.less.next 20).2.pos ≤ 1000000000 := by have := hm.p1; simp only [Mk.next, Mk.less]; omega
  have c0 := hm.c0
  have c1 := hm.c1
  refine fn_ok Try.func53 rfl Try.ntmps53 Try.results53 rfl 1 499 (by simp) (by simp) ?_
  simp only [vsA, vsB, vsC, appendWp, Nat.reduceShiftRight, Nat.reduceMod, Nat.reduceLT, Nat.reduceMul, Nat.reduceSub, Int.reduceToNat, Int.reduceNeg, Int.reduceLT, Int.reduceLE, Int.reduceEq, Nat.reduceEqDiff, Nat.reduceAdd, Nat.reduceLeDiff, reduceIte, reduceCtorEq, Nat.reduceBEq, tysA, i64, mkV, mkO, w1]
  refine call_one (next_ok m.less hm.l hpos 20 (by omega)) rfl rfl rfl rfl rfl rfl ?_
  simp only [vsA, vsB, vsC, appendWp, Nat.reduceShiftRight, Nat.reduceMod, Nat.reduceLT, Nat.reduceMul, Nat.reduceSub, Int.reduceToNat, Int.reduceNeg, Int.reduceLT, Int.reduceLE, Int.reduceEq, Nat.reduceEqDiff, Nat.reduceAdd, Nat.reduceLeDiff, reduceIte, reduceCtorEq, Nat.reduceBEq, tysA, i64, mkV, mkO, w1, Mk.next, Mk.less]
  refine draw_c mix [] [] (by rfl) ?_
  have hT : Mk.tree (d + 1) m = if pick m.l m.pos 20 = 0 then (Re.node 0 [], (m.less.next 20).2) else (m.less.next 20).2.set := if_pos (.inr hlp)
  rw [hT]
  by_cases h0 : pick m.l m.pos 20 = 0
  · simp only [vsA, vsB, vsC, appendWp, Nat.reduceShiftRight, Nat.reduceMod, Nat.reduceLT, Nat.reduceMul, Nat.reduceSub, Int.reduceToNat, Int.reduceNeg, Int.reduceLT, Int.reduceLE, Int.reduceEq, Nat.reduceEqDiff, Nat.reduceAdd, Nat.reduceLeDiff, reduceIte, reduceCtorEq, Nat.reduceBEq, tysA, i64, mkV, mkO, w1, Mk.next, hd0, h3, hlp, h0]
    all_goals first | exact ⟨rfl, rfl⟩ | exact ⟨rfl, trivial⟩ | rfl | trivial | (rw [reV_eq]; rfl)
  · simp only [vsA, vsB, vsC, appendWp, Nat.reduceShiftRight, Nat.reduceMod, Nat.reduceLT, Nat.reduceMul, Nat.reduceSub, Int.reduceToNat, Int.reduceNeg, Int.reduceLT, Int.reduceLE, Int.reduceEq, Nat.reduceEqDiff, Nat.reduceAdd, Nat.reduceLeDiff, reduceIte, reduceCtorEq, Nat.reduceBEq, tysA, i64, mkV, mkO, w1, Mk.next, hd0, h3, hlp, h0]
    refine call_one (set_ok (m.less.next 20).2 hm.l hyp) rfl rfl rfl rfl rfl (renV_reV _ _) ?_
    simp only [vsA, vsB, vsC, appendWp, Nat.reduceShiftRight, Nat.reduceMod, Nat.reduceLT, Nat.reduceMul, Nat.reduceSub, Int.reduceToNat, Int.reduceNeg, Int.reduceLT, Int.reduceLE, Int.reduceEq, Nat.reduceEqDiff, Nat.reduceAdd, Nat.reduceLeDiff, reduceIte, reduceCtorEq, Nat.reduceBEq, tysA, i64, mkV, mkO, w1, Mk.next, hd0, h3, hlp, h0]
    all_goals first | exact ⟨rfl, rfl⟩ | exact ⟨rfl, trivial⟩ | rfl | trivial | (rw [reV_eq]; rfl)

set_option maxRecDepth 100000 in
set_option maxHeartbeats 8000000 in
theorem tree_cat (d : Nat) (hd : d ≤ 1000) (hz : zD d ≤ 1000000000) (ht : TreeOK d) (m : Mk) (b : Int) (hb : 0 ≤ b) (hm : m.In b) (hs : b + cD (d + 1) ≤ 1000000000) (h3 : ¬ m.left - 1 < 3) (hlp : ¬ (m.l.length : Int) < m.pos + 1) (h5 : pick m.l m.pos 20 < 5) :
    callWp Try.prog 53 [mkV, i64 (d + 1 : Nat)] [mkO m] fun v s => v = reV (m.tree (d + 1)).1 ∧ s = [mkO (m.tree (d + 1)).2] := by
  have hc := cD_nonneg d
  have hcd : cD (d + 1) = 2 + 4 * (cD d + 1) := rfl
  have w1 : IntKind.i64.wrap (m.left - 1) = m.left - 1 := w64 _ (by have := hm.l0; have := hm.l1; omega)
  have w2 : IntKind.i64.wrap ((d + 1 : Nat) - 1 : Int) = (d : Int) := by rw [w64 _ (by omega)]; omega
  have hd0 : ¬ ((d + 1 : Nat) : Int) = 0 := by omega
  have hpos : 0 ≤ m.pos ∧ m.pos ≤ 1000000000 := ⟨hm.p0, by have := hm.p1; omega⟩
  have hy : (m.less.next 20).2.In (b + 2) := by have := hm.left.next 20; rwa [Int.add_assoc] at this
  have hyp : 0 ≤ (m.less.next 20).2.pos ∧ (m.less.next 20).2.pos ≤ 1000000000 := by have := hm.p1; simp only [Mk.next, Mk.less]; omega
  have c0 := hm.c0
  have c1 := hm.c1
  refine fn_ok Try.func53 rfl Try.ntmps53 Try.results53 rfl 1 499 (by simp) (by simp) ?_
  simp only [vsA, vsB, vsC, appendWp, Nat.reduceShiftRight, Nat.reduceMod, Nat.reduceLT, Nat.reduceMul, Nat.reduceSub, Int.reduceToNat, Int.reduceNeg, Int.reduceLT, Int.reduceLE, Int.reduceEq, Nat.reduceEqDiff, Nat.reduceAdd, Nat.reduceLeDiff, reduceIte, reduceCtorEq, Nat.reduceBEq, tysA, i64, mkV, mkO, w1]
  refine call_one (next_ok m.less hm.l hpos 20 (by omega)) rfl rfl rfl rfl rfl rfl ?_
  simp only [vsA, vsB, vsC, appendWp, Nat.reduceShiftRight, Nat.reduceMod, Nat.reduceLT, Nat.reduceMul, Nat.reduceSub, Int.reduceToNat, Int.reduceNeg, Int.reduceLT, Int.reduceLE, Int.reduceEq, Nat.reduceEqDiff, Nat.reduceAdd, Nat.reduceLeDiff, reduceIte, reduceCtorEq, Nat.reduceBEq, tysA, i64, mkV, mkO, w1, Mk.next, Mk.less]
  refine draw_c mix [] [] (by rfl) ?_
  rw [tree_node h3 hlp]
  have hn : Mk.node (Mk.tree d) (pick m.l m.pos 20) (m.less.next 20).2 = (Re.node 2 (kidsFrom (Mk.tree d) 4 0 (m.less.next 20).2).1, (kidsFrom (Mk.tree d) 4 0 (m.less.next 20).2).2) := by simp [Mk.node, Mk.has, Mk.next, Mk.less, h5]
  rw [hn]
  simp only [vsA, vsB, vsC, appendWp, Nat.reduceShiftRight, Nat.reduceMod, Nat.reduceLT, Nat.reduceMul, Nat.reduceSub, Int.reduceToNat, Int.reduceNeg, Int.reduceLT, Int.reduceLE, Int.reduceEq, Nat.reduceEqDiff, Nat.reduceAdd, Nat.reduceLeDiff, reduceIte, reduceCtorEq, Nat.reduceBEq, tysA, i64, mkV, mkO, w1, w2, Mk.next, Mk.less, hd0, h3, hlp, h5]
  refine call_one (kids_ok d hd ht (m.less.next 20).2 (b + 2) (by omega) hy (by omega)) rfl rfl rfl rfl rfl (by first | rfl | exact renV_reV _ _) ?_
  simp only [vsA, vsB, vsC, appendWp, Nat.reduceShiftRight, Nat.reduceMod, Nat.reduceLT, Nat.reduceMul, Nat.reduceSub, Int.reduceToNat, Int.reduceNeg, Int.reduceLT, Int.reduceLE, Int.reduceEq, Nat.reduceEqDiff, Nat.reduceAdd, Nat.reduceLeDiff, reduceIte, reduceCtorEq, Nat.reduceBEq, tysA, i64, mkV, mkO, w1, w2, Mk.next, Mk.less, hd0, h3, hlp, h5]
  all_goals first | exact ⟨rfl, rfl⟩ | exact ⟨rfl, trivial⟩ | rfl | trivial | (rw [reV_eq]; rfl)

set_option maxRecDepth 100000 in
set_option maxHeartbeats 8000000 in
theorem tree_alt (d : Nat) (hd : d ≤ 1000) (hz : zD d ≤ 1000000000) (ht : TreeOK d) (m : Mk) (b : Int) (hb : 0 ≤ b) (hm : m.In b) (hs : b + cD (d + 1) ≤ 1000000000) (h3 : ¬ m.left - 1 < 3) (hlp : ¬ (m.l.length : Int) < m.pos + 1) (h5 : ¬ pick m.l m.pos 20 < 5) (h8 : pick m.l m.pos 20 < 8) :
    callWp Try.prog 53 [mkV, i64 (d + 1 : Nat)] [mkO m] fun v s => v = reV (m.tree (d + 1)).1 ∧ s = [mkO (m.tree (d + 1)).2] := by
  have hc := cD_nonneg d
  have hcd : cD (d + 1) = 2 + 4 * (cD d + 1) := rfl
  have w1 : IntKind.i64.wrap (m.left - 1) = m.left - 1 := w64 _ (by have := hm.l0; have := hm.l1; omega)
  have w2 : IntKind.i64.wrap ((d + 1 : Nat) - 1 : Int) = (d : Int) := by rw [w64 _ (by omega)]; omega
  have hd0 : ¬ ((d + 1 : Nat) : Int) = 0 := by omega
  have hpos : 0 ≤ m.pos ∧ m.pos ≤ 1000000000 := ⟨hm.p0, by have := hm.p1; omega⟩
  have hy : (m.less.next 20).2.In (b + 2) := by have := hm.left.next 20; rwa [Int.add_assoc] at this
  have hyp : 0 ≤ (m.less.next 20).2.pos ∧ (m.less.next 20).2.pos ≤ 1000000000 := by have := hm.p1; simp only [Mk.next, Mk.less]; omega
  have c0 := hm.c0
  have c1 := hm.c1
  refine fn_ok Try.func53 rfl Try.ntmps53 Try.results53 rfl 1 499 (by simp) (by simp) ?_
  simp only [vsA, vsB, vsC, appendWp, Nat.reduceShiftRight, Nat.reduceMod, Nat.reduceLT, Nat.reduceMul, Nat.reduceSub, Int.reduceToNat, Int.reduceNeg, Int.reduceLT, Int.reduceLE, Int.reduceEq, Nat.reduceEqDiff, Nat.reduceAdd, Nat.reduceLeDiff, reduceIte, reduceCtorEq, Nat.reduceBEq, tysA, i64, mkV, mkO, w1]
  refine call_one (next_ok m.less hm.l hpos 20 (by omega)) rfl rfl rfl rfl rfl rfl ?_
  simp only [vsA, vsB, vsC, appendWp, Nat.reduceShiftRight, Nat.reduceMod, Nat.reduceLT, Nat.reduceMul, Nat.reduceSub, Int.reduceToNat, Int.reduceNeg, Int.reduceLT, Int.reduceLE, Int.reduceEq, Nat.reduceEqDiff, Nat.reduceAdd, Nat.reduceLeDiff, reduceIte, reduceCtorEq, Nat.reduceBEq, tysA, i64, mkV, mkO, w1, Mk.next, Mk.less]
  refine draw_c mix [] [] (by rfl) ?_
  rw [tree_node h3 hlp]
  have hn : Mk.node (Mk.tree d) (pick m.l m.pos 20) (m.less.next 20).2 = (Re.node 3 (kidsFrom (Mk.tree d) 4 0 (m.less.next 20).2).1, (kidsFrom (Mk.tree d) 4 0 (m.less.next 20).2).2) := by simp [Mk.node, Mk.has, Mk.next, Mk.less, h5, h8]
  rw [hn]
  simp only [vsA, vsB, vsC, appendWp, Nat.reduceShiftRight, Nat.reduceMod, Nat.reduceLT, Nat.reduceMul, Nat.reduceSub, Int.reduceToNat, Int.reduceNeg, Int.reduceLT, Int.reduceLE, Int.reduceEq, Nat.reduceEqDiff, Nat.reduceAdd, Nat.reduceLeDiff, reduceIte, reduceCtorEq, Nat.reduceBEq, tysA, i64, mkV, mkO, w1, w2, Mk.next, Mk.less, hd0, h3, hlp, h5, h8]
  refine call_one (kids_ok d hd ht (m.less.next 20).2 (b + 2) (by omega) hy (by omega)) rfl rfl rfl rfl rfl (by first | rfl | exact renV_reV _ _) ?_
  simp only [vsA, vsB, vsC, appendWp, Nat.reduceShiftRight, Nat.reduceMod, Nat.reduceLT, Nat.reduceMul, Nat.reduceSub, Int.reduceToNat, Int.reduceNeg, Int.reduceLT, Int.reduceLE, Int.reduceEq, Nat.reduceEqDiff, Nat.reduceAdd, Nat.reduceLeDiff, reduceIte, reduceCtorEq, Nat.reduceBEq, tysA, i64, mkV, mkO, w1, w2, Mk.next, Mk.less, hd0, h3, hlp, h5, h8]
  all_goals first | exact ⟨rfl, rfl⟩ | exact ⟨rfl, trivial⟩ | rfl | trivial | (rw [reV_eq]; rfl)

set_option maxRecDepth 100000 in
set_option maxHeartbeats 8000000 in
theorem tree_rep (d : Nat) (hd : d ≤ 1000) (hz : zD d ≤ 1000000000) (ht : TreeOK d) (m : Mk) (b : Int) (hb : 0 ≤ b) (hm : m.In b) (hs : b + cD (d + 1) ≤ 1000000000) (h3 : ¬ m.left - 1 < 3) (hlp : ¬ (m.l.length : Int) < m.pos + 1) (h5 : ¬ pick m.l m.pos 20 < 5) (h8 : ¬ pick m.l m.pos 20 < 8) (h12 : pick m.l m.pos 20 < 12) :
    callWp Try.prog 53 [mkV, i64 (d + 1 : Nat)] [mkO m] fun v s => v = reV (m.tree (d + 1)).1 ∧ s = [mkO (m.tree (d + 1)).2] := by
  have hc := cD_nonneg d
  have hcd : cD (d + 1) = 2 + 4 * (cD d + 1) := rfl
  have w1 : IntKind.i64.wrap (m.left - 1) = m.left - 1 := w64 _ (by have := hm.l0; have := hm.l1; omega)
  have w2 : IntKind.i64.wrap ((d + 1 : Nat) - 1 : Int) = (d : Int) := by rw [w64 _ (by omega)]; omega
  have hd0 : ¬ ((d + 1 : Nat) : Int) = 0 := by omega
  have hpos : 0 ≤ m.pos ∧ m.pos ≤ 1000000000 := ⟨hm.p0, by have := hm.p1; omega⟩
  have hy : (m.less.next 20).2.In (b + 2) := by have := hm.left.next 20; rwa [Int.add_assoc] at this
  have hyp : 0 ≤ (m.less.next 20).2.pos ∧ (m.less.next 20).2.pos ≤ 1000000000 := by have := hm.p1; simp only [Mk.next, Mk.less]; omega
  have c0 := hm.c0
  have c1 := hm.c1
  refine fn_ok Try.func53 rfl Try.ntmps53 Try.results53 rfl 1 499 (by simp) (by simp) ?_
  simp only [vsA, vsB, vsC, appendWp, Nat.reduceShiftRight, Nat.reduceMod, Nat.reduceLT, Nat.reduceMul, Nat.reduceSub, Int.reduceToNat, Int.reduceNeg, Int.reduceLT, Int.reduceLE, Int.reduceEq, Nat.reduceEqDiff, Nat.reduceAdd, Nat.reduceLeDiff, reduceIte, reduceCtorEq, Nat.reduceBEq, tysA, i64, mkV, mkO, w1]
  refine call_one (next_ok m.less hm.l hpos 20 (by omega)) rfl rfl rfl rfl rfl rfl ?_
  simp only [vsA, vsB, vsC, appendWp, Nat.reduceShiftRight, Nat.reduceMod, Nat.reduceLT, Nat.reduceMul, Nat.reduceSub, Int.reduceToNat, Int.reduceNeg, Int.reduceLT, Int.reduceLE, Int.reduceEq, Nat.reduceEqDiff, Nat.reduceAdd, Nat.reduceLeDiff, reduceIte, reduceCtorEq, Nat.reduceBEq, tysA, i64, mkV, mkO, w1, Mk.next, Mk.less]
  refine draw_c mix [] [] (by rfl) ?_
  rw [tree_node h3 hlp]
  have hn : Mk.node (Mk.tree d) (pick m.l m.pos 20) (m.less.next 20).2 = Mk.rep (Mk.tree d) (m.less.next 20).2 := by simp [Mk.node, Mk.has, Mk.next, Mk.less, h5, h8, h12]
  rw [hn]
  simp only [vsA, vsB, vsC, appendWp, Nat.reduceShiftRight, Nat.reduceMod, Nat.reduceLT, Nat.reduceMul, Nat.reduceSub, Int.reduceToNat, Int.reduceNeg, Int.reduceLT, Int.reduceLE, Int.reduceEq, Nat.reduceEqDiff, Nat.reduceAdd, Nat.reduceLeDiff, reduceIte, reduceCtorEq, Nat.reduceBEq, tysA, i64, mkV, mkO, w1, w2, Mk.next, Mk.less, hd0, h3, hlp, h5, h8, h12]
  refine call_one (rep_ok d hd ht (m.less.next 20).2 (b + 2) (by omega) hy (by omega) hz) rfl rfl rfl rfl rfl (by first | rfl | exact renV_reV _ _) ?_
  simp only [vsA, vsB, vsC, appendWp, Nat.reduceShiftRight, Nat.reduceMod, Nat.reduceLT, Nat.reduceMul, Nat.reduceSub, Int.reduceToNat, Int.reduceNeg, Int.reduceLT, Int.reduceLE, Int.reduceEq, Nat.reduceEqDiff, Nat.reduceAdd, Nat.reduceLeDiff, reduceIte, reduceCtorEq, Nat.reduceBEq, tysA, i64, mkV, mkO, w1, w2, Mk.next, Mk.less, hd0, h3, hlp, h5, h8, h12]
  all_goals first | exact ⟨rfl, rfl⟩ | exact ⟨rfl, trivial⟩ | rfl | trivial | (rw [reV_eq]; rfl)

set_option maxRecDepth 100000 in
set_option maxHeartbeats 8000000 in
theorem tree_q12 (d : Nat) (hd : d ≤ 1000) (hz : zD d ≤ 1000000000) (ht : TreeOK d) (m : Mk) (b : Int) (hb : 0 ≤ b) (hm : m.In b) (hs : b + cD (d + 1) ≤ 1000000000) (h3 : ¬ m.left - 1 < 3) (hlp : ¬ (m.l.length : Int) < m.pos + 1) (hq : pick m.l m.pos 20 = 12) (hu : 0 < bitV .and .i64 m.uses 64) :
    callWp Try.prog 53 [mkV, i64 (d + 1 : Nat)] [mkO m] fun v s => v = reV (m.tree (d + 1)).1 ∧ s = [mkO (m.tree (d + 1)).2] := by
  have hc := cD_nonneg d
  have hcd : cD (d + 1) = 2 + 4 * (cD d + 1) := rfl
  have w1 : IntKind.i64.wrap (m.left - 1) = m.left - 1 := w64 _ (by have := hm.l0; have := hm.l1; omega)
  have w2 : IntKind.i64.wrap ((d + 1 : Nat) - 1 : Int) = (d : Int) := by rw [w64 _ (by omega)]; omega
  have hd0 : ¬ ((d + 1 : Nat) : Int) = 0 := by omega
  have hpos : 0 ≤ m.pos ∧ m.pos ≤ 1000000000 := ⟨hm.p0, by have := hm.p1; omega⟩
  have hy : (m.less.next 20).2.In (b + 2) := by have := hm.left.next 20; rwa [Int.add_assoc] at this
  have hyp : 0 ≤ (m.less.next 20).2.pos ∧ (m.less.next 20).2.pos ≤ 1000000000 := by have := hm.p1; simp only [Mk.next, Mk.less]; omega
  have c0 := hm.c0
  have c1 := hm.c1
  refine fn_ok Try.func53 rfl Try.ntmps53 Try.results53 rfl 1 499 (by simp) (by simp) ?_
  simp only [vsA, vsB, vsC, appendWp, Nat.reduceShiftRight, Nat.reduceMod, Nat.reduceLT, Nat.reduceMul, Nat.reduceSub, Int.reduceToNat, Int.reduceNeg, Int.reduceLT, Int.reduceLE, Int.reduceEq, Nat.reduceEqDiff, Nat.reduceAdd, Nat.reduceLeDiff, reduceIte, reduceCtorEq, Nat.reduceBEq, tysA, i64, mkV, mkO, w1]
  refine call_one (next_ok m.less hm.l hpos 20 (by omega)) rfl rfl rfl rfl rfl rfl ?_
  simp only [vsA, vsB, vsC, appendWp, Nat.reduceShiftRight, Nat.reduceMod, Nat.reduceLT, Nat.reduceMul, Nat.reduceSub, Int.reduceToNat, Int.reduceNeg, Int.reduceLT, Int.reduceLE, Int.reduceEq, Nat.reduceEqDiff, Nat.reduceAdd, Nat.reduceLeDiff, reduceIte, reduceCtorEq, Nat.reduceBEq, tysA, i64, mkV, mkO, w1, Mk.next, Mk.less]
  refine draw_c mix [] [] (by rfl) ?_
  rw [tree_node h3 hlp]
  have hn : Mk.node (Mk.tree d) (pick m.l m.pos 20) (m.less.next 20).2 = Mk.capture (Mk.tree d) (m.less.next 20).2 := by simp [Mk.node, Mk.has, Mk.next, Mk.less, hq, hu]
  rw [hn]
  simp only [vsA, vsB, vsC, appendWp, Nat.reduceShiftRight, Nat.reduceMod, Nat.reduceLT, Nat.reduceMul, Nat.reduceSub, Int.reduceToNat, Int.reduceNeg, Int.reduceLT, Int.reduceLE, Int.reduceEq, Nat.reduceEqDiff, Nat.reduceAdd, Nat.reduceLeDiff, reduceIte, reduceCtorEq, Nat.reduceBEq, tysA, i64, mkV, mkO, w1, w2, Mk.next, Mk.less, hd0, h3, hlp, hq, hu]
  refine call_one (capture_ok d hd ht (m.less.next 20).2 (b + 2) (by omega) hy (by omega)) rfl rfl rfl rfl rfl (by first | rfl | exact renV_reV _ _) ?_
  simp only [vsA, vsB, vsC, appendWp, Nat.reduceShiftRight, Nat.reduceMod, Nat.reduceLT, Nat.reduceMul, Nat.reduceSub, Int.reduceToNat, Int.reduceNeg, Int.reduceLT, Int.reduceLE, Int.reduceEq, Nat.reduceEqDiff, Nat.reduceAdd, Nat.reduceLeDiff, reduceIte, reduceCtorEq, Nat.reduceBEq, tysA, i64, mkV, mkO, w1, w2, Mk.next, Mk.less, hd0, h3, hlp, hq, hu]
  all_goals first | exact ⟨rfl, rfl⟩ | exact ⟨rfl, trivial⟩ | rfl | trivial | (rw [reV_eq]; rfl)

set_option maxRecDepth 100000 in
set_option maxHeartbeats 8000000 in
theorem tree_q12n (d : Nat) (hd : d ≤ 1000) (hz : zD d ≤ 1000000000) (ht : TreeOK d) (m : Mk) (b : Int) (hb : 0 ≤ b) (hm : m.In b) (hs : b + cD (d + 1) ≤ 1000000000) (h3 : ¬ m.left - 1 < 3) (hlp : ¬ (m.l.length : Int) < m.pos + 1) (hq : pick m.l m.pos 20 = 12) (hu : ¬ 0 < bitV .and .i64 m.uses 64) :
    callWp Try.prog 53 [mkV, i64 (d + 1 : Nat)] [mkO m] fun v s => v = reV (m.tree (d + 1)).1 ∧ s = [mkO (m.tree (d + 1)).2] := by
  have hc := cD_nonneg d
  have hcd : cD (d + 1) = 2 + 4 * (cD d + 1) := rfl
  have w1 : IntKind.i64.wrap (m.left - 1) = m.left - 1 := w64 _ (by have := hm.l0; have := hm.l1; omega)
  have w2 : IntKind.i64.wrap ((d + 1 : Nat) - 1 : Int) = (d : Int) := by rw [w64 _ (by omega)]; omega
  have hd0 : ¬ ((d + 1 : Nat) : Int) = 0 := by omega
  have hpos : 0 ≤ m.pos ∧ m.pos ≤ 1000000000 := ⟨hm.p0, by have := hm.p1; omega⟩
  have hy : (m.less.next 20).2.In (b + 2) := by have := hm.left.next 20; rwa [Int.add_assoc] at this
  have hyp : 0 ≤ (m.less.next 20).2.pos ∧ (m.less.next 20).2.pos ≤ 1000000000 := by have := hm.p1; simp only [Mk.next, Mk.less]; omega
  have c0 := hm.c0
  have c1 := hm.c1
  refine fn_ok Try.func53 rfl Try.ntmps53 Try.results53 rfl 1 499 (by simp) (by simp) ?_
  simp only [vsA, vsB, vsC, appendWp, Nat.reduceShiftRight, Nat.reduceMod, Nat.reduceLT, Nat.reduceMul, Nat.reduceSub, Int.reduceToNat, Int.reduceNeg, Int.reduceLT, Int.reduceLE, Int.reduceEq, Nat.reduceEqDiff, Nat.reduceAdd, Nat.reduceLeDiff, reduceIte, reduceCtorEq, Nat.reduceBEq, tysA, i64, mkV, mkO, w1]
  refine call_one (next_ok m.less hm.l hpos 20 (by omega)) rfl rfl rfl rfl rfl rfl ?_
  simp only [vsA, vsB, vsC, appendWp, Nat.reduceShiftRight, Nat.reduceMod, Nat.reduceLT, Nat.reduceMul, Nat.reduceSub, Int.reduceToNat, Int.reduceNeg, Int.reduceLT, Int.reduceLE, Int.reduceEq, Nat.reduceEqDiff, Nat.reduceAdd, Nat.reduceLeDiff, reduceIte, reduceCtorEq, Nat.reduceBEq, tysA, i64, mkV, mkO, w1, Mk.next, Mk.less]
  refine draw_c mix [] [] (by rfl) ?_
  rw [tree_node h3 hlp]
  have hn : Mk.node (Mk.tree d) (pick m.l m.pos 20) (m.less.next 20).2 = (m.less.next 20).2.set := by simp [Mk.node, Mk.has, Mk.next, Mk.less, hq, hu]
  rw [hn]
  simp only [vsA, vsB, vsC, appendWp, Nat.reduceShiftRight, Nat.reduceMod, Nat.reduceLT, Nat.reduceMul, Nat.reduceSub, Int.reduceToNat, Int.reduceNeg, Int.reduceLT, Int.reduceLE, Int.reduceEq, Nat.reduceEqDiff, Nat.reduceAdd, Nat.reduceLeDiff, reduceIte, reduceCtorEq, Nat.reduceBEq, tysA, i64, mkV, mkO, w1, w2, Mk.next, Mk.less, hd0, h3, hlp, hq, hu]
  refine call_one (set_ok (m.less.next 20).2 hm.l hyp) rfl rfl rfl rfl rfl (by first | rfl | exact renV_reV _ _) ?_
  simp only [vsA, vsB, vsC, appendWp, Nat.reduceShiftRight, Nat.reduceMod, Nat.reduceLT, Nat.reduceMul, Nat.reduceSub, Int.reduceToNat, Int.reduceNeg, Int.reduceLT, Int.reduceLE, Int.reduceEq, Nat.reduceEqDiff, Nat.reduceAdd, Nat.reduceLeDiff, reduceIte, reduceCtorEq, Nat.reduceBEq, tysA, i64, mkV, mkO, w1, w2, Mk.next, Mk.less, hd0, h3, hlp, hq, hu]
  all_goals first | exact ⟨rfl, rfl⟩ | exact ⟨rfl, trivial⟩ | rfl | trivial | (rw [reV_eq]; rfl)

set_option maxRecDepth 100000 in
set_option maxHeartbeats 8000000 in
theorem tree_q13 (d : Nat) (hd : d ≤ 1000) (hz : zD d ≤ 1000000000) (ht : TreeOK d) (m : Mk) (b : Int) (hb : 0 ≤ b) (hm : m.In b) (hs : b + cD (d + 1) ≤ 1000000000) (h3 : ¬ m.left - 1 < 3) (hlp : ¬ (m.l.length : Int) < m.pos + 1) (hq : pick m.l m.pos 20 = 13) (hu : 0 < bitV .and .i64 m.uses 64) :
    callWp Try.prog 53 [mkV, i64 (d + 1 : Nat)] [mkO m] fun v s => v = reV (m.tree (d + 1)).1 ∧ s = [mkO (m.tree (d + 1)).2] := by
  have hc := cD_nonneg d
  have hcd : cD (d + 1) = 2 + 4 * (cD d + 1) := rfl
  have w1 : IntKind.i64.wrap (m.left - 1) = m.left - 1 := w64 _ (by have := hm.l0; have := hm.l1; omega)
  have w2 : IntKind.i64.wrap ((d + 1 : Nat) - 1 : Int) = (d : Int) := by rw [w64 _ (by omega)]; omega
  have hd0 : ¬ ((d + 1 : Nat) : Int) = 0 := by omega
  have hpos : 0 ≤ m.pos ∧ m.pos ≤ 1000000000 := ⟨hm.p0, by have := hm.p1; omega⟩
  have hy : (m.less.next 20).2.In (b + 2) := by have := hm.left.next 20; rwa [Int.add_assoc] at this
  have hyp : 0 ≤ (m.less.next 20).2.pos ∧ (m.less.next 20).2.pos ≤ 1000000000 := by have := hm.p1; simp only [Mk.next, Mk.less]; omega
  have c0 := hm.c0
  have c1 := hm.c1
  refine fn_ok Try.func53 rfl Try.ntmps53 Try.results53 rfl 1 499 (by simp) (by simp) ?_
  simp only [vsA, vsB, vsC, appendWp, Nat.reduceShiftRight, Nat.reduceMod, Nat.reduceLT, Nat.reduceMul, Nat.reduceSub, Int.reduceToNat, Int.reduceNeg, Int.reduceLT, Int.reduceLE, Int.reduceEq, Nat.reduceEqDiff, Nat.reduceAdd, Nat.reduceLeDiff, reduceIte, reduceCtorEq, Nat.reduceBEq, tysA, i64, mkV, mkO, w1]
  refine call_one (next_ok m.less hm.l hpos 20 (by omega)) rfl rfl rfl rfl rfl rfl ?_
  simp only [vsA, vsB, vsC, appendWp, Nat.reduceShiftRight, Nat.reduceMod, Nat.reduceLT, Nat.reduceMul, Nat.reduceSub, Int.reduceToNat, Int.reduceNeg, Int.reduceLT, Int.reduceLE, Int.reduceEq, Nat.reduceEqDiff, Nat.reduceAdd, Nat.reduceLeDiff, reduceIte, reduceCtorEq, Nat.reduceBEq, tysA, i64, mkV, mkO, w1, Mk.next, Mk.less]
  refine draw_c mix [] [] (by rfl) ?_
  rw [tree_node h3 hlp]
  have hn : Mk.node (Mk.tree d) (pick m.l m.pos 20) (m.less.next 20).2 = Mk.capture (Mk.tree d) (m.less.next 20).2 := by simp [Mk.node, Mk.has, Mk.next, Mk.less, hq, hu]
  rw [hn]
  simp only [vsA, vsB, vsC, appendWp, Nat.reduceShiftRight, Nat.reduceMod, Nat.reduceLT, Nat.reduceMul, Nat.reduceSub, Int.reduceToNat, Int.reduceNeg, Int.reduceLT, Int.reduceLE, Int.reduceEq, Nat.reduceEqDiff, Nat.reduceAdd, Nat.reduceLeDiff, reduceIte, reduceCtorEq, Nat.reduceBEq, tysA, i64, mkV, mkO, w1, w2, Mk.next, Mk.less, hd0, h3, hlp, hq, hu]
  refine call_one (capture_ok d hd ht (m.less.next 20).2 (b + 2) (by omega) hy (by omega)) rfl rfl rfl rfl rfl (by first | rfl | exact renV_reV _ _) ?_
  simp only [vsA, vsB, vsC, appendWp, Nat.reduceShiftRight, Nat.reduceMod, Nat.reduceLT, Nat.reduceMul, Nat.reduceSub, Int.reduceToNat, Int.reduceNeg, Int.reduceLT, Int.reduceLE, Int.reduceEq, Nat.reduceEqDiff, Nat.reduceAdd, Nat.reduceLeDiff, reduceIte, reduceCtorEq, Nat.reduceBEq, tysA, i64, mkV, mkO, w1, w2, Mk.next, Mk.less, hd0, h3, hlp, hq, hu]
  all_goals first | exact ⟨rfl, rfl⟩ | exact ⟨rfl, trivial⟩ | rfl | trivial | (rw [reV_eq]; rfl)

set_option maxRecDepth 100000 in
set_option maxHeartbeats 8000000 in
theorem tree_q13n (d : Nat) (hd : d ≤ 1000) (hz : zD d ≤ 1000000000) (ht : TreeOK d) (m : Mk) (b : Int) (hb : 0 ≤ b) (hm : m.In b) (hs : b + cD (d + 1) ≤ 1000000000) (h3 : ¬ m.left - 1 < 3) (hlp : ¬ (m.l.length : Int) < m.pos + 1) (hq : pick m.l m.pos 20 = 13) (hu : ¬ 0 < bitV .and .i64 m.uses 64) :
    callWp Try.prog 53 [mkV, i64 (d + 1 : Nat)] [mkO m] fun v s => v = reV (m.tree (d + 1)).1 ∧ s = [mkO (m.tree (d + 1)).2] := by
  have hc := cD_nonneg d
  have hcd : cD (d + 1) = 2 + 4 * (cD d + 1) := rfl
  have w1 : IntKind.i64.wrap (m.left - 1) = m.left - 1 := w64 _ (by have := hm.l0; have := hm.l1; omega)
  have w2 : IntKind.i64.wrap ((d + 1 : Nat) - 1 : Int) = (d : Int) := by rw [w64 _ (by omega)]; omega
  have hd0 : ¬ ((d + 1 : Nat) : Int) = 0 := by omega
  have hpos : 0 ≤ m.pos ∧ m.pos ≤ 1000000000 := ⟨hm.p0, by have := hm.p1; omega⟩
  have hy : (m.less.next 20).2.In (b + 2) := by have := hm.left.next 20; rwa [Int.add_assoc] at this
  have hyp : 0 ≤ (m.less.next 20).2.pos ∧ (m.less.next 20).2.pos ≤ 1000000000 := by have := hm.p1; simp only [Mk.next, Mk.less]; omega
  have c0 := hm.c0
  have c1 := hm.c1
  refine fn_ok Try.func53 rfl Try.ntmps53 Try.results53 rfl 1 499 (by simp) (by simp) ?_
  simp only [vsA, vsB, vsC, appendWp, Nat.reduceShiftRight, Nat.reduceMod, Nat.reduceLT, Nat.reduceMul, Nat.reduceSub, Int.reduceToNat, Int.reduceNeg, Int.reduceLT, Int.reduceLE, Int.reduceEq, Nat.reduceEqDiff, Nat.reduceAdd, Nat.reduceLeDiff, reduceIte, reduceCtorEq, Nat.reduceBEq, tysA, i64, mkV, mkO, w1]
  refine call_one (next_ok m.less hm.l hpos 20 (by omega)) rfl rfl rfl rfl rfl rfl ?_
  simp only [vsA, vsB, vsC, appendWp, Nat.reduceShiftRight, Nat.reduceMod, Nat.reduceLT, Nat.reduceMul, Nat.reduceSub, Int.reduceToNat, Int.reduceNeg, Int.reduceLT, Int.reduceLE, Int.reduceEq, Nat.reduceEqDiff, Nat.reduceAdd, Nat.reduceLeDiff, reduceIte, reduceCtorEq, Nat.reduceBEq, tysA, i64, mkV, mkO, w1, Mk.next, Mk.less]
  refine draw_c mix [] [] (by rfl) ?_
  rw [tree_node h3 hlp]
  have hn : Mk.node (Mk.tree d) (pick m.l m.pos 20) (m.less.next 20).2 = (m.less.next 20).2.set := by simp [Mk.node, Mk.has, Mk.next, Mk.less, hq, hu]
  rw [hn]
  simp only [vsA, vsB, vsC, appendWp, Nat.reduceShiftRight, Nat.reduceMod, Nat.reduceLT, Nat.reduceMul, Nat.reduceSub, Int.reduceToNat, Int.reduceNeg, Int.reduceLT, Int.reduceLE, Int.reduceEq, Nat.reduceEqDiff, Nat.reduceAdd, Nat.reduceLeDiff, reduceIte, reduceCtorEq, Nat.reduceBEq, tysA, i64, mkV, mkO, w1, w2, Mk.next, Mk.less, hd0, h3, hlp, hq, hu]
  refine call_one (set_ok (m.less.next 20).2 hm.l hyp) rfl rfl rfl rfl rfl (by first | rfl | exact renV_reV _ _) ?_
  simp only [vsA, vsB, vsC, appendWp, Nat.reduceShiftRight, Nat.reduceMod, Nat.reduceLT, Nat.reduceMul, Nat.reduceSub, Int.reduceToNat, Int.reduceNeg, Int.reduceLT, Int.reduceLE, Int.reduceEq, Nat.reduceEqDiff, Nat.reduceAdd, Nat.reduceLeDiff, reduceIte, reduceCtorEq, Nat.reduceBEq, tysA, i64, mkV, mkO, w1, w2, Mk.next, Mk.less, hd0, h3, hlp, hq, hu]
  all_goals first | exact ⟨rfl, rfl⟩ | exact ⟨rfl, trivial⟩ | rfl | trivial | (rw [reV_eq]; rfl)

set_option maxRecDepth 100000 in
set_option maxHeartbeats 8000000 in
theorem tree_q14 (d : Nat) (hd : d ≤ 1000) (hz : zD d ≤ 1000000000) (ht : TreeOK d) (m : Mk) (b : Int) (hb : 0 ≤ b) (hm : m.In b) (hs : b + cD (d + 1) ≤ 1000000000) (h3 : ¬ m.left - 1 < 3) (hlp : ¬ (m.l.length : Int) < m.pos + 1) (hq : pick m.l m.pos 20 = 14) (hu : 0 < bitV .and .i64 m.uses 16) :
    callWp Try.prog 53 [mkV, i64 (d + 1 : Nat)] [mkO m] fun v s => v = reV (m.tree (d + 1)).1 ∧ s = [mkO (m.tree (d + 1)).2] := by
  have hc := cD_nonneg d
  have hcd : cD (d + 1) = 2 + 4 * (cD d + 1) := rfl
  have w1 : IntKind.i64.wrap (m.left - 1) = m.left - 1 := w64 _ (by have := hm.l0; have := hm.l1; omega)
  have w2 : IntKind.i64.wrap ((d + 1 : Nat) - 1 : Int) = (d : Int) := by rw [w64 _ (by omega)]; omega
  have hd0 : ¬ ((d + 1 : Nat) : Int) = 0 := by omega
  have hpos : 0 ≤ m.pos ∧ m.pos ≤ 1000000000 := ⟨hm.p0, by have := hm.p1; omega⟩
  have hy : (m.less.next 20).2.In (b + 2) := by have := hm.left.next 20; rwa [Int.add_assoc] at this
  have hyp : 0 ≤ (m.less.next 20).2.pos ∧ (m.less.next 20).2.pos ≤ 1000000000 := by have := hm.p1; simp only [Mk.next, Mk.less]; omega
  have c0 := hm.c0
  have c1 := hm.c1
  refine fn_ok Try.func53 rfl Try.ntmps53 Try.results53 rfl 1 499 (by simp) (by simp) ?_
  simp only [vsA, vsB, vsC, appendWp, Nat.reduceShiftRight, Nat.reduceMod, Nat.reduceLT, Nat.reduceMul, Nat.reduceSub, Int.reduceToNat, Int.reduceNeg, Int.reduceLT, Int.reduceLE, Int.reduceEq, Nat.reduceEqDiff, Nat.reduceAdd, Nat.reduceLeDiff, reduceIte, reduceCtorEq, Nat.reduceBEq, tysA, i64, mkV, mkO, w1]
  refine call_one (next_ok m.less hm.l hpos 20 (by omega)) rfl rfl rfl rfl rfl rfl ?_
  simp only [vsA, vsB, vsC, appendWp, Nat.reduceShiftRight, Nat.reduceMod, Nat.reduceLT, Nat.reduceMul, Nat.reduceSub, Int.reduceToNat, Int.reduceNeg, Int.reduceLT, Int.reduceLE, Int.reduceEq, Nat.reduceEqDiff, Nat.reduceAdd, Nat.reduceLeDiff, reduceIte, reduceCtorEq, Nat.reduceBEq, tysA, i64, mkV, mkO, w1, Mk.next, Mk.less]
  refine draw_c mix [] [] (by rfl) ?_
  rw [tree_node h3 hlp]
  have hn : Mk.node (Mk.tree d) (pick m.l m.pos 20) (m.less.next 20).2 = (.mk 11 [] [] 0 0 0 (((m.less.next 20).2).next 6).1 false, (((m.less.next 20).2).next 6).2) := by simp [Mk.node, Mk.has, Mk.next, Mk.less, hq, hu]
  rw [hn]
  simp only [vsA, vsB, vsC, appendWp, Nat.reduceShiftRight, Nat.reduceMod, Nat.reduceLT, Nat.reduceMul, Nat.reduceSub, Int.reduceToNat, Int.reduceNeg, Int.reduceLT, Int.reduceLE, Int.reduceEq, Nat.reduceEqDiff, Nat.reduceAdd, Nat.reduceLeDiff, reduceIte, reduceCtorEq, Nat.reduceBEq, tysA, i64, mkV, mkO, w1, w2, Mk.next, Mk.less, hd0, h3, hlp, hq, hu]
  refine call_one (next_ok (m.less.next 20).2 hm.l hyp 6 (by omega)) rfl rfl rfl rfl rfl (by first | rfl | exact renV_reV _ _) ?_
  simp only [vsA, vsB, vsC, appendWp, Nat.reduceShiftRight, Nat.reduceMod, Nat.reduceLT, Nat.reduceMul, Nat.reduceSub, Int.reduceToNat, Int.reduceNeg, Int.reduceLT, Int.reduceLE, Int.reduceEq, Nat.reduceEqDiff, Nat.reduceAdd, Nat.reduceLeDiff, reduceIte, reduceCtorEq, Nat.reduceBEq, tysA, i64, mkV, mkO, w1, w2, Mk.next, Mk.less, hd0, h3, hlp, hq, hu]
  all_goals first | exact ⟨rfl, rfl⟩ | exact ⟨rfl, trivial⟩ | rfl | trivial | (rw [reV_eq]; rfl)

set_option maxRecDepth 100000 in
set_option maxHeartbeats 8000000 in
theorem tree_q14n (d : Nat) (hd : d ≤ 1000) (hz : zD d ≤ 1000000000) (ht : TreeOK d) (m : Mk) (b : Int) (hb : 0 ≤ b) (hm : m.In b) (hs : b + cD (d + 1) ≤ 1000000000) (h3 : ¬ m.left - 1 < 3) (hlp : ¬ (m.l.length : Int) < m.pos + 1) (hq : pick m.l m.pos 20 = 14) (hu : ¬ 0 < bitV .and .i64 m.uses 16) :
    callWp Try.prog 53 [mkV, i64 (d + 1 : Nat)] [mkO m] fun v s => v = reV (m.tree (d + 1)).1 ∧ s = [mkO (m.tree (d + 1)).2] := by
  have hc := cD_nonneg d
  have hcd : cD (d + 1) = 2 + 4 * (cD d + 1) := rfl
  have w1 : IntKind.i64.wrap (m.left - 1) = m.left - 1 := w64 _ (by have := hm.l0; have := hm.l1; omega)
  have w2 : IntKind.i64.wrap ((d + 1 : Nat) - 1 : Int) = (d : Int) := by rw [w64 _ (by omega)]; omega
  have hd0 : ¬ ((d + 1 : Nat) : Int) = 0 := by omega
  have hpos : 0 ≤ m.pos ∧ m.pos ≤ 1000000000 := ⟨hm.p0, by have := hm.p1; omega⟩
  have hy : (m.less.next 20).2.In (b + 2) := by have := hm.left.next 20; rwa [Int.add_assoc] at this
  have hyp : 0 ≤ (m.less.next 20).2.pos ∧ (m.less.next 20).2.pos ≤ 1000000000 := by have := hm.p1; simp only [Mk.next, Mk.less]; omega
  have c0 := hm.c0
  have c1 := hm.c1
  refine fn_ok Try.func53 rfl Try.ntmps53 Try.results53 rfl 1 499 (by simp) (by simp) ?_
  simp only [vsA, vsB, vsC, appendWp, Nat.reduceShiftRight, Nat.reduceMod, Nat.reduceLT, Nat.reduceMul, Nat.reduceSub, Int.reduceToNat, Int.reduceNeg, Int.reduceLT, Int.reduceLE, Int.reduceEq, Nat.reduceEqDiff, Nat.reduceAdd, Nat.reduceLeDiff, reduceIte, reduceCtorEq, Nat.reduceBEq, tysA, i64, mkV, mkO, w1]
  refine call_one (next_ok m.less hm.l hpos 20 (by omega)) rfl rfl rfl rfl rfl rfl ?_
  simp only [vsA, vsB, vsC, appendWp, Nat.reduceShiftRight, Nat.reduceMod, Nat.reduceLT, Nat.reduceMul, Nat.reduceSub, Int.reduceToNat, Int.reduceNeg, Int.reduceLT, Int.reduceLE, Int.reduceEq, Nat.reduceEqDiff, Nat.reduceAdd, Nat.reduceLeDiff, reduceIte, reduceCtorEq, Nat.reduceBEq, tysA, i64, mkV, mkO, w1, Mk.next, Mk.less]
  refine draw_c mix [] [] (by rfl) ?_
  rw [tree_node h3 hlp]
  have hn : Mk.node (Mk.tree d) (pick m.l m.pos 20) (m.less.next 20).2 = (m.less.next 20).2.set := by simp [Mk.node, Mk.has, Mk.next, Mk.less, hq, hu]
  rw [hn]
  simp only [vsA, vsB, vsC, appendWp, Nat.reduceShiftRight, Nat.reduceMod, Nat.reduceLT, Nat.reduceMul, Nat.reduceSub, Int.reduceToNat, Int.reduceNeg, Int.reduceLT, Int.reduceLE, Int.reduceEq, Nat.reduceEqDiff, Nat.reduceAdd, Nat.reduceLeDiff, reduceIte, reduceCtorEq, Nat.reduceBEq, tysA, i64, mkV, mkO, w1, w2, Mk.next, Mk.less, hd0, h3, hlp, hq, hu]
  refine call_one (set_ok (m.less.next 20).2 hm.l hyp) rfl rfl rfl rfl rfl (by first | rfl | exact renV_reV _ _) ?_
  simp only [vsA, vsB, vsC, appendWp, Nat.reduceShiftRight, Nat.reduceMod, Nat.reduceLT, Nat.reduceMul, Nat.reduceSub, Int.reduceToNat, Int.reduceNeg, Int.reduceLT, Int.reduceLE, Int.reduceEq, Nat.reduceEqDiff, Nat.reduceAdd, Nat.reduceLeDiff, reduceIte, reduceCtorEq, Nat.reduceBEq, tysA, i64, mkV, mkO, w1, w2, Mk.next, Mk.less, hd0, h3, hlp, hq, hu]
  all_goals first | exact ⟨rfl, rfl⟩ | exact ⟨rfl, trivial⟩ | rfl | trivial | (rw [reV_eq]; rfl)

set_option maxRecDepth 100000 in
set_option maxHeartbeats 8000000 in
theorem tree_q15 (d : Nat) (hd : d ≤ 1000) (hz : zD d ≤ 1000000000) (ht : TreeOK d) (m : Mk) (b : Int) (hb : 0 ≤ b) (hm : m.In b) (hs : b + cD (d + 1) ≤ 1000000000) (h3 : ¬ m.left - 1 < 3) (hlp : ¬ (m.l.length : Int) < m.pos + 1) (hq : pick m.l m.pos 20 = 15) (hu : 0 < bitV .and .i64 m.uses 4) :
    callWp Try.prog 53 [mkV, i64 (d + 1 : Nat)] [mkO m] fun v s => v = reV (m.tree (d + 1)).1 ∧ s = [mkO (m.tree (d + 1)).2] := by
  have hc := cD_nonneg d
  have hcd : cD (d + 1) = 2 + 4 * (cD d + 1) := rfl
  have w1 : IntKind.i64.wrap (m.left - 1) = m.left - 1 := w64 _ (by have := hm.l0; have := hm.l1; omega)
  have w2 : IntKind.i64.wrap ((d + 1 : Nat) - 1 : Int) = (d : Int) := by rw [w64 _ (by omega)]; omega
  have hd0 : ¬ ((d + 1 : Nat) : Int) = 0 := by omega
  have hpos : 0 ≤ m.pos ∧ m.pos ≤ 1000000000 := ⟨hm.p0, by have := hm.p1; omega⟩
  have hy : (m.less.next 20).2.In (b + 2) := by have := hm.left.next 20; rwa [Int.add_assoc] at this
  have hyp : 0 ≤ (m.less.next 20).2.pos ∧ (m.less.next 20).2.pos ≤ 1000000000 := by have := hm.p1; simp only [Mk.next, Mk.less]; omega
  have c0 := hm.c0
  have c1 := hm.c1
  refine fn_ok Try.func53 rfl Try.ntmps53 Try.results53 rfl 1 499 (by simp) (by simp) ?_
  simp only [vsA, vsB, vsC, appendWp, Nat.reduceShiftRight, Nat.reduceMod, Nat.reduceLT, Nat.reduceMul, Nat.reduceSub, Int.reduceToNat, Int.reduceNeg, Int.reduceLT, Int.reduceLE, Int.reduceEq, Nat.reduceEqDiff, Nat.reduceAdd, Nat.reduceLeDiff, reduceIte, reduceCtorEq, Nat.reduceBEq, tysA, i64, mkV, mkO, w1]
  refine call_one (next_ok m.less hm.l hpos 20 (by omega)) rfl rfl rfl rfl rfl rfl ?_
  simp only [vsA, vsB, vsC, appendWp, Nat.reduceShiftRight, Nat.reduceMod, Nat.reduceLT, Nat.reduceMul, Nat.reduceSub, Int.reduceToNat, Int.reduceNeg, Int.reduceLT, Int.reduceLE, Int.reduceEq, Nat.reduceEqDiff, Nat.reduceAdd, Nat.reduceLeDiff, reduceIte, reduceCtorEq, Nat.reduceBEq, tysA, i64, mkV, mkO, w1, Mk.next, Mk.less]
  refine draw_c mix [] [] (by rfl) ?_
  rw [tree_node h3 hlp]
  have hp2 := pick_range m.l (m.pos + 1 + 1) 2 (by omega)
  have w3 : IntKind.i64.wrap (7 + pick m.l (m.pos + 1 + 1) 2) = 7 + pick m.l (m.pos + 1 + 1) 2 := w64 _ (by omega)
  have hn : Mk.node (Mk.tree d) (pick m.l m.pos 20) (m.less.next 20).2 = (.mk (7 + (((m.less.next 20).2.next 3).2.next 2).1) [] [(Mk.tree d (((m.less.next 20).2.next 3).2.next 2).2).1] 0 0 0 0 (decide (((m.less.next 20).2.next 3).1 = 0)), (Mk.tree d (((m.less.next 20).2.next 3).2.next 2).2).2) := by simp [Mk.node, Mk.has, Mk.next, Mk.less, hq, hu, w3]
  rw [hn]
  simp only [vsA, vsB, vsC, appendWp, Nat.reduceShiftRight, Nat.reduceMod, Nat.reduceLT, Nat.reduceMul, Nat.reduceSub, Int.reduceToNat, Int.reduceNeg, Int.reduceLT, Int.reduceLE, Int.reduceEq, Nat.reduceEqDiff, Nat.reduceAdd, Nat.reduceLeDiff, reduceIte, reduceCtorEq, Nat.reduceBEq, tysA, i64, mkV, mkO, w1, w2, Mk.next, Mk.less, hd0, h3, hlp, hq, hu, w3]
  refine call_one (next_ok (m.less.next 20).2 hm.l hyp 3 (by omega)) rfl rfl rfl rfl rfl (by first | rfl | exact renV_reV _ _) ?_
  simp only [vsA, vsB, vsC, appendWp, Nat.reduceShiftRight, Nat.reduceMod, Nat.reduceLT, Nat.reduceMul, Nat.reduceSub, Int.reduceToNat, Int.reduceNeg, Int.reduceLT, Int.reduceLE, Int.reduceEq, Nat.reduceEqDiff, Nat.reduceAdd, Nat.reduceLeDiff, reduceIte, reduceCtorEq, Nat.reduceBEq, tysA, i64, mkV, mkO, w1, w2, Mk.next, Mk.less, hd0, h3, hlp, hq, hu, w3]
  refine call_one (next_ok ((m.less.next 20).2.next 3).2 hm.l (by have := hm.p1; simp only [Mk.next, Mk.less]; omega) 2 (by omega)) rfl rfl rfl rfl rfl (by first | rfl | exact renV_reV _ _) ?_
  simp only [vsA, vsB, vsC, appendWp, Nat.reduceShiftRight, Nat.reduceMod, Nat.reduceLT, Nat.reduceMul, Nat.reduceSub, Int.reduceToNat, Int.reduceNeg, Int.reduceLT, Int.reduceLE, Int.reduceEq, Nat.reduceEqDiff, Nat.reduceAdd, Nat.reduceLeDiff, reduceIte, reduceCtorEq, Nat.reduceBEq, tysA, i64, mkV, mkO, w1, w2, Mk.next, Mk.less, hd0, h3, hlp, hq, hu, w3]
  refine call_one (ht (((m.less.next 20).2.next 3).2.next 2).2 (b + 4) (by omega) (((hy.next 3).next 2).mono (by omega)) (by omega)) rfl rfl rfl rfl rfl (by first | rfl | exact renV_reV _ _) ?_
  simp only [vsA, vsB, vsC, appendWp, Nat.reduceShiftRight, Nat.reduceMod, Nat.reduceLT, Nat.reduceMul, Nat.reduceSub, Int.reduceToNat, Int.reduceNeg, Int.reduceLT, Int.reduceLE, Int.reduceEq, Nat.reduceEqDiff, Nat.reduceAdd, Nat.reduceLeDiff, reduceIte, reduceCtorEq, Nat.reduceBEq, tysA, i64, mkV, mkO, w1, w2, Mk.next, Mk.less, hd0, h3, hlp, hq, hu, w3]
  all_goals first | exact ⟨rfl, rfl⟩ | exact ⟨rfl, trivial⟩ | rfl | trivial | (rw [reV_eq]; rfl)

set_option maxRecDepth 100000 in
set_option maxHeartbeats 8000000 in
theorem tree_q15n (d : Nat) (hd : d ≤ 1000) (hz : zD d ≤ 1000000000) (ht : TreeOK d) (m : Mk) (b : Int) (hb : 0 ≤ b) (hm : m.In b) (hs : b + cD (d + 1) ≤ 1000000000) (h3 : ¬ m.left - 1 < 3) (hlp : ¬ (m.l.length : Int) < m.pos + 1) (hq : pick m.l m.pos 20 = 15) (hu : ¬ 0 < bitV .and .i64 m.uses 4) :
    callWp Try.prog 53 [mkV, i64 (d + 1 : Nat)] [mkO m] fun v s => v = reV (m.tree (d + 1)).1 ∧ s = [mkO (m.tree (d + 1)).2] := by
  have hc := cD_nonneg d
  have hcd : cD (d + 1) = 2 + 4 * (cD d + 1) := rfl
  have w1 : IntKind.i64.wrap (m.left - 1) = m.left - 1 := w64 _ (by have := hm.l0; have := hm.l1; omega)
  have w2 : IntKind.i64.wrap ((d + 1 : Nat) - 1 : Int) = (d : Int) := by rw [w64 _ (by omega)]; omega
  have hd0 : ¬ ((d + 1 : Nat) : Int) = 0 := by omega
  have hpos : 0 ≤ m.pos ∧ m.pos ≤ 1000000000 := ⟨hm.p0, by have := hm.p1; omega⟩
  have hy : (m.less.next 20).2.In (b + 2) := by have := hm.left.next 20; rwa [Int.add_assoc] at this
  have hyp : 0 ≤ (m.less.next 20).2.pos ∧ (m.less.next 20).2.pos ≤ 1000000000 := by have := hm.p1; simp only [Mk.next, Mk.less]; omega
  have c0 := hm.c0
  have c1 := hm.c1
  refine fn_ok Try.func53 rfl Try.ntmps53 Try.results53 rfl 1 499 (by simp) (by simp) ?_
  simp only [vsA, vsB, vsC, appendWp, Nat.reduceShiftRight, Nat.reduceMod, Nat.reduceLT, Nat.reduceMul, Nat.reduceSub, Int.reduceToNat, Int.reduceNeg, Int.reduceLT, Int.reduceLE, Int.reduceEq, Nat.reduceEqDiff, Nat.reduceAdd, Nat.reduceLeDiff, reduceIte, reduceCtorEq, Nat.reduceBEq, tysA, i64, mkV, mkO, w1]
  refine call_one (next_ok m.less hm.l hpos 20 (by omega)) rfl rfl rfl rfl rfl rfl ?_
  simp only [vsA, vsB, vsC, appendWp, Nat.reduceShiftRight, Nat.reduceMod, Nat.reduceLT, Nat.reduceMul, Nat.reduceSub, Int.reduceToNat, Int.reduceNeg, Int.reduceLT, Int.reduceLE, Int.reduceEq, Nat.reduceEqDiff, Nat.reduceAdd, Nat.reduceLeDiff, reduceIte, reduceCtorEq, Nat.reduceBEq, tysA, i64, mkV, mkO, w1, Mk.next, Mk.less]
  refine draw_c mix [] [] (by rfl) ?_
  rw [tree_node h3 hlp]
  have hn : Mk.node (Mk.tree d) (pick m.l m.pos 20) (m.less.next 20).2 = (m.less.next 20).2.set := by simp [Mk.node, Mk.has, Mk.next, Mk.less, hq, hu]
  rw [hn]
  simp only [vsA, vsB, vsC, appendWp, Nat.reduceShiftRight, Nat.reduceMod, Nat.reduceLT, Nat.reduceMul, Nat.reduceSub, Int.reduceToNat, Int.reduceNeg, Int.reduceLT, Int.reduceLE, Int.reduceEq, Nat.reduceEqDiff, Nat.reduceAdd, Nat.reduceLeDiff, reduceIte, reduceCtorEq, Nat.reduceBEq, tysA, i64, mkV, mkO, w1, w2, Mk.next, Mk.less, hd0, h3, hlp, hq, hu]
  refine call_one (set_ok (m.less.next 20).2 hm.l hyp) rfl rfl rfl rfl rfl (by first | rfl | exact renV_reV _ _) ?_
  simp only [vsA, vsB, vsC, appendWp, Nat.reduceShiftRight, Nat.reduceMod, Nat.reduceLT, Nat.reduceMul, Nat.reduceSub, Int.reduceToNat, Int.reduceNeg, Int.reduceLT, Int.reduceLE, Int.reduceEq, Nat.reduceEqDiff, Nat.reduceAdd, Nat.reduceLeDiff, reduceIte, reduceCtorEq, Nat.reduceBEq, tysA, i64, mkV, mkO, w1, w2, Mk.next, Mk.less, hd0, h3, hlp, hq, hu]
  all_goals first | exact ⟨rfl, rfl⟩ | exact ⟨rfl, trivial⟩ | rfl | trivial | (rw [reV_eq]; rfl)

set_option maxRecDepth 100000 in
set_option maxHeartbeats 8000000 in
theorem tree_q16 (d : Nat) (hd : d ≤ 1000) (hz : zD d ≤ 1000000000) (ht : TreeOK d) (m : Mk) (b : Int) (hb : 0 ≤ b) (hm : m.In b) (hs : b + cD (d + 1) ≤ 1000000000) (h3 : ¬ m.left - 1 < 3) (hlp : ¬ (m.l.length : Int) < m.pos + 1) (hq : pick m.l m.pos 20 = 16) (hu : 0 < bitV .and .i64 m.uses 8) :
    callWp Try.prog 53 [mkV, i64 (d + 1 : Nat)] [mkO m] fun v s => v = reV (m.tree (d + 1)).1 ∧ s = [mkO (m.tree (d + 1)).2] := by
  have hc := cD_nonneg d
  have hcd : cD (d + 1) = 2 + 4 * (cD d + 1) := rfl
  have w1 : IntKind.i64.wrap (m.left - 1) = m.left - 1 := w64 _ (by have := hm.l0; have := hm.l1; omega)
  have w2 : IntKind.i64.wrap ((d + 1 : Nat) - 1 : Int) = (d : Int) := by rw [w64 _ (by omega)]; omega
  have hd0 : ¬ ((d + 1 : Nat) : Int) = 0 := by omega
  have hpos : 0 ≤ m.pos ∧ m.pos ≤ 1000000000 := ⟨hm.p0, by have := hm.p1; omega⟩
  have hy : (m.less.next 20).2.In (b + 2) := by have := hm.left.next 20; rwa [Int.add_assoc] at this
  have hyp : 0 ≤ (m.less.next 20).2.pos ∧ (m.less.next 20).2.pos ≤ 1000000000 := by have := hm.p1; simp only [Mk.next, Mk.less]; omega
  have c0 := hm.c0
  have c1 := hm.c1
  refine fn_ok Try.func53 rfl Try.ntmps53 Try.results53 rfl 1 499 (by simp) (by simp) ?_
  simp only [vsA, vsB, vsC, appendWp, Nat.reduceShiftRight, Nat.reduceMod, Nat.reduceLT, Nat.reduceMul, Nat.reduceSub, Int.reduceToNat, Int.reduceNeg, Int.reduceLT, Int.reduceLE, Int.reduceEq, Nat.reduceEqDiff, Nat.reduceAdd, Nat.reduceLeDiff, reduceIte, reduceCtorEq, Nat.reduceBEq, tysA, i64, mkV, mkO, w1]
  refine call_one (next_ok m.less hm.l hpos 20 (by omega)) rfl rfl rfl rfl rfl rfl ?_
  simp only [vsA, vsB, vsC, appendWp, Nat.reduceShiftRight, Nat.reduceMod, Nat.reduceLT, Nat.reduceMul, Nat.reduceSub, Int.reduceToNat, Int.reduceNeg, Int.reduceLT, Int.reduceLE, Int.reduceEq, Nat.reduceEqDiff, Nat.reduceAdd, Nat.reduceLeDiff, reduceIte, reduceCtorEq, Nat.reduceBEq, tysA, i64, mkV, mkO, w1, Mk.next, Mk.less]
  refine draw_c mix [] [] (by rfl) ?_
  rw [tree_node h3 hlp]
  have hn : Mk.node (Mk.tree d) (pick m.l m.pos 20) (m.less.next 20).2 = (Re.node 9 [(Mk.tree d (m.less.next 20).2).1], (Mk.tree d (m.less.next 20).2).2) := by simp [Mk.node, Mk.has, Mk.next, Mk.less, hq, hu]
  rw [hn]
  simp only [vsA, vsB, vsC, appendWp, Nat.reduceShiftRight, Nat.reduceMod, Nat.reduceLT, Nat.reduceMul, Nat.reduceSub, Int.reduceToNat, Int.reduceNeg, Int.reduceLT, Int.reduceLE, Int.reduceEq, Nat.reduceEqDiff, Nat.reduceAdd, Nat.reduceLeDiff, reduceIte, reduceCtorEq, Nat.reduceBEq, tysA, i64, mkV, mkO, w1, w2, Mk.next, Mk.less, hd0, h3, hlp, hq, hu]
  refine call_one (ht (m.less.next 20).2 (b + 2) (by omega) hy (by omega)) rfl rfl rfl rfl rfl (by first | rfl | exact renV_reV _ _) ?_
  simp only [vsA, vsB, vsC, appendWp, Nat.reduceShiftRight, Nat.reduceMod, Nat.reduceLT, Nat.reduceMul, Nat.reduceSub, Int.reduceToNat, Int.reduceNeg, Int.reduceLT, Int.reduceLE, Int.reduceEq, Nat.reduceEqDiff, Nat.reduceAdd, Nat.reduceLeDiff, reduceIte, reduceCtorEq, Nat.reduceBEq, tysA, i64, mkV, mkO, w1, w2, Mk.next, Mk.less, hd0, h3, hlp, hq, hu]
  all_goals first | exact ⟨rfl, rfl⟩ | exact ⟨rfl, trivial⟩ | rfl | trivial | (rw [reV_eq]; rfl)

set_option maxRecDepth 100000 in
set_option maxHeartbeats 8000000 in
theorem tree_q16n (d : Nat) (hd : d ≤ 1000) (hz : zD d ≤ 1000000000) (ht : TreeOK d) (m : Mk) (b : Int) (hb : 0 ≤ b) (hm : m.In b) (hs : b + cD (d + 1) ≤ 1000000000) (h3 : ¬ m.left - 1 < 3) (hlp : ¬ (m.l.length : Int) < m.pos + 1) (hq : pick m.l m.pos 20 = 16) (hu : ¬ 0 < bitV .and .i64 m.uses 8) :
    callWp Try.prog 53 [mkV, i64 (d + 1 : Nat)] [mkO m] fun v s => v = reV (m.tree (d + 1)).1 ∧ s = [mkO (m.tree (d + 1)).2] := by
  have hc := cD_nonneg d
  have hcd : cD (d + 1) = 2 + 4 * (cD d + 1) := rfl
  have w1 : IntKind.i64.wrap (m.left - 1) = m.left - 1 := w64 _ (by have := hm.l0; have := hm.l1; omega)
  have w2 : IntKind.i64.wrap ((d + 1 : Nat) - 1 : Int) = (d : Int) := by rw [w64 _ (by omega)]; omega
  have hd0 : ¬ ((d + 1 : Nat) : Int) = 0 := by omega
  have hpos : 0 ≤ m.pos ∧ m.pos ≤ 1000000000 := ⟨hm.p0, by have := hm.p1; omega⟩
  have hy : (m.less.next 20).2.In (b + 2) := by have := hm.left.next 20; rwa [Int.add_assoc] at this
  have hyp : 0 ≤ (m.less.next 20).2.pos ∧ (m.less.next 20).2.pos ≤ 1000000000 := by have := hm.p1; simp only [Mk.next, Mk.less]; omega
  have c0 := hm.c0
  have c1 := hm.c1
  refine fn_ok Try.func53 rfl Try.ntmps53 Try.results53 rfl 1 499 (by simp) (by simp) ?_
  simp only [vsA, vsB, vsC, appendWp, Nat.reduceShiftRight, Nat.reduceMod, Nat.reduceLT, Nat.reduceMul, Nat.reduceSub, Int.reduceToNat, Int.reduceNeg, Int.reduceLT, Int.reduceLE, Int.reduceEq, Nat.reduceEqDiff, Nat.reduceAdd, Nat.reduceLeDiff, reduceIte, reduceCtorEq, Nat.reduceBEq, tysA, i64, mkV, mkO, w1]
  refine call_one (next_ok m.less hm.l hpos 20 (by omega)) rfl rfl rfl rfl rfl rfl ?_
  simp only [vsA, vsB, vsC, appendWp, Nat.reduceShiftRight, Nat.reduceMod, Nat.reduceLT, Nat.reduceMul, Nat.reduceSub, Int.reduceToNat, Int.reduceNeg, Int.reduceLT, Int.reduceLE, Int.reduceEq, Nat.reduceEqDiff, Nat.reduceAdd, Nat.reduceLeDiff, reduceIte, reduceCtorEq, Nat.reduceBEq, tysA, i64, mkV, mkO, w1, Mk.next, Mk.less]
  refine draw_c mix [] [] (by rfl) ?_
  rw [tree_node h3 hlp]
  have hn : Mk.node (Mk.tree d) (pick m.l m.pos 20) (m.less.next 20).2 = (m.less.next 20).2.set := by simp [Mk.node, Mk.has, Mk.next, Mk.less, hq, hu]
  rw [hn]
  simp only [vsA, vsB, vsC, appendWp, Nat.reduceShiftRight, Nat.reduceMod, Nat.reduceLT, Nat.reduceMul, Nat.reduceSub, Int.reduceToNat, Int.reduceNeg, Int.reduceLT, Int.reduceLE, Int.reduceEq, Nat.reduceEqDiff, Nat.reduceAdd, Nat.reduceLeDiff, reduceIte, reduceCtorEq, Nat.reduceBEq, tysA, i64, mkV, mkO, w1, w2, Mk.next, Mk.less, hd0, h3, hlp, hq, hu]
  refine call_one (set_ok (m.less.next 20).2 hm.l hyp) rfl rfl rfl rfl rfl (by first | rfl | exact renV_reV _ _) ?_
  simp only [vsA, vsB, vsC, appendWp, Nat.reduceShiftRight, Nat.reduceMod, Nat.reduceLT, Nat.reduceMul, Nat.reduceSub, Int.reduceToNat, Int.reduceNeg, Int.reduceLT, Int.reduceLE, Int.reduceEq, Nat.reduceEqDiff, Nat.reduceAdd, Nat.reduceLeDiff, reduceIte, reduceCtorEq, Nat.reduceBEq, tysA, i64, mkV, mkO, w1, w2, Mk.next, Mk.less, hd0, h3, hlp, hq, hu]
  all_goals first | exact ⟨rfl, rfl⟩ | exact ⟨rfl, trivial⟩ | rfl | trivial | (rw [reV_eq]; rfl)

set_option maxRecDepth 100000 in
set_option maxHeartbeats 8000000 in
theorem tree_q17 (d : Nat) (hd : d ≤ 1000) (hz : zD d ≤ 1000000000) (ht : TreeOK d) (m : Mk) (b : Int) (hb : 0 ≤ b) (hm : m.In b) (hs : b + cD (d + 1) ≤ 1000000000) (h3 : ¬ m.left - 1 < 3) (hlp : ¬ (m.l.length : Int) < m.pos + 1) (hq : pick m.l m.pos 20 = 17) (hu : 0 < bitV .and .i64 m.uses 1) (hcp : 0 < m.caps) :
    callWp Try.prog 53 [mkV, i64 (d + 1 : Nat)] [mkO m] fun v s => v = reV (m.tree (d + 1)).1 ∧ s = [mkO (m.tree (d + 1)).2] := by
  have hc := cD_nonneg d
  have hcd : cD (d + 1) = 2 + 4 * (cD d + 1) := rfl
  have w1 : IntKind.i64.wrap (m.left - 1) = m.left - 1 := w64 _ (by have := hm.l0; have := hm.l1; omega)
  have w2 : IntKind.i64.wrap ((d + 1 : Nat) - 1 : Int) = (d : Int) := by rw [w64 _ (by omega)]; omega
  have hd0 : ¬ ((d + 1 : Nat) : Int) = 0 := by omega
  have hpos : 0 ≤ m.pos ∧ m.pos ≤ 1000000000 := ⟨hm.p0, by have := hm.p1; omega⟩
  have hy : (m.less.next 20).2.In (b + 2) := by have := hm.left.next 20; rwa [Int.add_assoc] at this
  have hyp : 0 ≤ (m.less.next 20).2.pos ∧ (m.less.next 20).2.pos ≤ 1000000000 := by have := hm.p1; simp only [Mk.next, Mk.less]; omega
  have c0 := hm.c0
  have c1 := hm.c1
  refine fn_ok Try.func53 rfl Try.ntmps53 Try.results53 rfl 1 499 (by simp) (by simp) ?_
  simp only [vsA, vsB, vsC, appendWp, Nat.reduceShiftRight, Nat.reduceMod, Nat.reduceLT, Nat.reduceMul, Nat.reduceSub, Int.reduceToNat, Int.reduceNeg, Int.reduceLT, Int.reduceLE, Int.reduceEq, Nat.reduceEqDiff, Nat.reduceAdd, Nat.reduceLeDiff, reduceIte, reduceCtorEq, Nat.reduceBEq, tysA, i64, mkV, mkO, w1]
  refine call_one (next_ok m.less hm.l hpos 20 (by omega)) rfl rfl rfl rfl rfl rfl ?_
  simp only [vsA, vsB, vsC, appendWp, Nat.reduceShiftRight, Nat.reduceMod, Nat.reduceLT, Nat.reduceMul, Nat.reduceSub, Int.reduceToNat, Int.reduceNeg, Int.reduceLT, Int.reduceLE, Int.reduceEq, Nat.reduceEqDiff, Nat.reduceAdd, Nat.reduceLeDiff, reduceIte, reduceCtorEq, Nat.reduceBEq, tysA, i64, mkV, mkO, w1, Mk.next, Mk.less]
  refine draw_c mix [] [] (by rfl) ?_
  rw [tree_node h3 hlp]
  have hp2 := pick_range m.l (m.pos + 1) m.caps (by omega)
  have w3 : IntKind.i64.wrap (1 + pick m.l (m.pos + 1) m.caps) = 1 + pick m.l (m.pos + 1) m.caps := w64 _ (by omega)
  have hn : Mk.node (Mk.tree d) (pick m.l m.pos 20) (m.less.next 20).2 = (.mk 6 [] [] 0 0 0 (1 + ((m.less.next 20).2.next m.caps).1) false, ((m.less.next 20).2.next m.caps).2) := by simp [Mk.node, Mk.has, Mk.next, Mk.less, hq, hu, hcp, w3]
  rw [hn]
  simp only [vsA, vsB, vsC, appendWp, Nat.reduceShiftRight, Nat.reduceMod, Nat.reduceLT, Nat.reduceMul, Nat.reduceSub, Int.reduceToNat, Int.reduceNeg, Int.reduceLT, Int.reduceLE, Int.reduceEq, Nat.reduceEqDiff, Nat.reduceAdd, Nat.reduceLeDiff, reduceIte, reduceCtorEq, Nat.reduceBEq, tysA, i64, mkV, mkO, w1, w2, Mk.next, Mk.less, hd0, h3, hlp, hq, hu, hcp, w3]
  refine call_one (next_ok (m.less.next 20).2 hm.l hyp m.caps (by omega)) rfl rfl rfl rfl rfl (by first | rfl | exact renV_reV _ _) ?_
  simp only [vsA, vsB, vsC, appendWp, Nat.reduceShiftRight, Nat.reduceMod, Nat.reduceLT, Nat.reduceMul, Nat.reduceSub, Int.reduceToNat, Int.reduceNeg, Int.reduceLT, Int.reduceLE, Int.reduceEq, Nat.reduceEqDiff, Nat.reduceAdd, Nat.reduceLeDiff, reduceIte, reduceCtorEq, Nat.reduceBEq, tysA, i64, mkV, mkO, w1, w2, Mk.next, Mk.less, hd0, h3, hlp, hq, hu, hcp, w3]
  all_goals first | exact ⟨rfl, rfl⟩ | exact ⟨rfl, trivial⟩ | rfl | trivial | (rw [reV_eq]; rfl)

set_option maxRecDepth 100000 in
set_option maxHeartbeats 8000000 in
theorem tree_q17m (d : Nat) (hd : d ≤ 1000) (hz : zD d ≤ 1000000000) (ht : TreeOK d) (m : Mk) (b : Int) (hb : 0 ≤ b) (hm : m.In b) (hs : b + cD (d + 1) ≤ 1000000000) (h3 : ¬ m.left - 1 < 3) (hlp : ¬ (m.l.length : Int) < m.pos + 1) (hq : pick m.l m.pos 20 = 17) (hu : 0 < bitV .and .i64 m.uses 1) (hcp : ¬ 0 < m.caps) :
    callWp Try.prog 53 [mkV, i64 (d + 1 : Nat)] [mkO m] fun v s => v = reV (m.tree (d + 1)).1 ∧ s = [mkO (m.tree (d + 1)).2] := by
  have hc := cD_nonneg d
  have hcd : cD (d + 1) = 2 + 4 * (cD d + 1) := rfl
  have w1 : IntKind.i64.wrap (m.left - 1) = m.left - 1 := w64 _ (by have := hm.l0; have := hm.l1; omega)
  have w2 : IntKind.i64.wrap ((d + 1 : Nat) - 1 : Int) = (d : Int) := by rw [w64 _ (by omega)]; omega
  have hd0 : ¬ ((d + 1 : Nat) : Int) = 0 := by omega
  have hpos : 0 ≤ m.pos ∧ m.pos ≤ 1000000000 := ⟨hm.p0, by have := hm.p1; omega⟩
  have hy : (m.less.next 20).2.In (b + 2) := by have := hm.left.next 20; rwa [Int.add_assoc] at this
  have hyp : 0 ≤ (m.less.next 20).2.pos ∧ (m.less.next 20).2.pos ≤ 1000000000 := by have := hm.p1; simp only [Mk.next, Mk.less]; omega
  have c0 := hm.c0
  have c1 := hm.c1
  refine fn_ok Try.func53 rfl Try.ntmps53 Try.results53 rfl 1 499 (by simp) (by simp) ?_
  simp only [vsA, vsB, vsC, appendWp, Nat.reduceShiftRight, Nat.reduceMod, Nat.reduceLT, Nat.reduceMul, Nat.reduceSub, Int.reduceToNat, Int.reduceNeg, Int.reduceLT, Int.reduceLE, Int.reduceEq, Nat.reduceEqDiff, Nat.reduceAdd, Nat.reduceLeDiff, reduceIte, reduceCtorEq, Nat.reduceBEq, tysA, i64, mkV, mkO, w1]
  refine call_one (next_ok m.less hm.l hpos 20 (by omega)) rfl rfl rfl rfl rfl rfl ?_
  simp only [vsA, vsB, vsC, appendWp, Nat.reduceShiftRight, Nat.reduceMod, Nat.reduceLT, Nat.reduceMul, Nat.reduceSub, Int.reduceToNat, Int.reduceNeg, Int.reduceLT, Int.reduceLE, Int.reduceEq, Nat.reduceEqDiff, Nat.reduceAdd, Nat.reduceLeDiff, reduceIte, reduceCtorEq, Nat.reduceBEq, tysA, i64, mkV, mkO, w1, Mk.next, Mk.less]
  refine draw_c mix [] [] (by rfl) ?_
  rw [tree_node h3 hlp]
  have hn : Mk.node (Mk.tree d) (pick m.l m.pos 20) (m.less.next 20).2 = (m.less.next 20).2.set := by simp [Mk.node, Mk.has, Mk.next, Mk.less, hq, hu, hcp]
  rw [hn]
  simp only [vsA, vsB, vsC, appendWp, Nat.reduceShiftRight, Nat.reduceMod, Nat.reduceLT, Nat.reduceMul, Nat.reduceSub, Int.reduceToNat, Int.reduceNeg, Int.reduceLT, Int.reduceLE, Int.reduceEq, Nat.reduceEqDiff, Nat.reduceAdd, Nat.reduceLeDiff, reduceIte, reduceCtorEq, Nat.reduceBEq, tysA, i64, mkV, mkO, w1, w2, Mk.next, Mk.less, hd0, h3, hlp, hq, hu, hcp]
  refine call_one (set_ok (m.less.next 20).2 hm.l hyp) rfl rfl rfl rfl rfl (by first | rfl | exact renV_reV _ _) ?_
  simp only [vsA, vsB, vsC, appendWp, Nat.reduceShiftRight, Nat.reduceMod, Nat.reduceLT, Nat.reduceMul, Nat.reduceSub, Int.reduceToNat, Int.reduceNeg, Int.reduceLT, Int.reduceLE, Int.reduceEq, Nat.reduceEqDiff, Nat.reduceAdd, Nat.reduceLeDiff, reduceIte, reduceCtorEq, Nat.reduceBEq, tysA, i64, mkV, mkO, w1, w2, Mk.next, Mk.less, hd0, h3, hlp, hq, hu, hcp]
  all_goals first | exact ⟨rfl, rfl⟩ | exact ⟨rfl, trivial⟩ | rfl | trivial | (rw [reV_eq]; rfl)

set_option maxRecDepth 100000 in
set_option maxHeartbeats 8000000 in
theorem tree_q17n (d : Nat) (hd : d ≤ 1000) (hz : zD d ≤ 1000000000) (ht : TreeOK d) (m : Mk) (b : Int) (hb : 0 ≤ b) (hm : m.In b) (hs : b + cD (d + 1) ≤ 1000000000) (h3 : ¬ m.left - 1 < 3) (hlp : ¬ (m.l.length : Int) < m.pos + 1) (hq : pick m.l m.pos 20 = 17) (hu : ¬ 0 < bitV .and .i64 m.uses 1) :
    callWp Try.prog 53 [mkV, i64 (d + 1 : Nat)] [mkO m] fun v s => v = reV (m.tree (d + 1)).1 ∧ s = [mkO (m.tree (d + 1)).2] := by
  have hc := cD_nonneg d
  have hcd : cD (d + 1) = 2 + 4 * (cD d + 1) := rfl
  have w1 : IntKind.i64.wrap (m.left - 1) = m.left - 1 := w64 _ (by have := hm.l0; have := hm.l1; omega)
  have w2 : IntKind.i64.wrap ((d + 1 : Nat) - 1 : Int) = (d : Int) := by rw [w64 _ (by omega)]; omega
  have hd0 : ¬ ((d + 1 : Nat) : Int) = 0 := by omega
  have hpos : 0 ≤ m.pos ∧ m.pos ≤ 1000000000 := ⟨hm.p0, by have := hm.p1; omega⟩
  have hy : (m.less.next 20).2.In (b + 2) := by have := hm.left.next 20; rwa [Int.add_assoc] at this
  have hyp : 0 ≤ (m.less.next 20).2.pos ∧ (m.less.next 20).2.pos ≤ 1000000000 := by have := hm.p1; simp only [Mk.next, Mk.less]; omega
  have c0 := hm.c0
  have c1 := hm.c1
  refine fn_ok Try.func53 rfl Try.ntmps53 Try.results53 rfl 1 499 (by simp) (by simp) ?_
  simp only [vsA, vsB, vsC, appendWp, Nat.reduceShiftRight, Nat.reduceMod, Nat.reduceLT, Nat.reduceMul, Nat.reduceSub, Int.reduceToNat, Int.reduceNeg, Int.reduceLT, Int.reduceLE, Int.reduceEq, Nat.reduceEqDiff, Nat.reduceAdd, Nat.reduceLeDiff, reduceIte, reduceCtorEq, Nat.reduceBEq, tysA, i64, mkV, mkO, w1]
  refine call_one (next_ok m.less hm.l hpos 20 (by omega)) rfl rfl rfl rfl rfl rfl ?_
  simp only [vsA, vsB, vsC, appendWp, Nat.reduceShiftRight, Nat.reduceMod, Nat.reduceLT, Nat.reduceMul, Nat.reduceSub, Int.reduceToNat, Int.reduceNeg, Int.reduceLT, Int.reduceLE, Int.reduceEq, Nat.reduceEqDiff, Nat.reduceAdd, Nat.reduceLeDiff, reduceIte, reduceCtorEq, Nat.reduceBEq, tysA, i64, mkV, mkO, w1, Mk.next, Mk.less]
  refine draw_c mix [] [] (by rfl) ?_
  rw [tree_node h3 hlp]
  have hn : Mk.node (Mk.tree d) (pick m.l m.pos 20) (m.less.next 20).2 = (m.less.next 20).2.set := by simp [Mk.node, Mk.has, Mk.next, Mk.less, hq, hu]
  rw [hn]
  simp only [vsA, vsB, vsC, appendWp, Nat.reduceShiftRight, Nat.reduceMod, Nat.reduceLT, Nat.reduceMul, Nat.reduceSub, Int.reduceToNat, Int.reduceNeg, Int.reduceLT, Int.reduceLE, Int.reduceEq, Nat.reduceEqDiff, Nat.reduceAdd, Nat.reduceLeDiff, reduceIte, reduceCtorEq, Nat.reduceBEq, tysA, i64, mkV, mkO, w1, w2, Mk.next, Mk.less, hd0, h3, hlp, hq, hu]
  refine call_one (set_ok (m.less.next 20).2 hm.l hyp) rfl rfl rfl rfl rfl (by first | rfl | exact renV_reV _ _) ?_
  simp only [vsA, vsB, vsC, appendWp, Nat.reduceShiftRight, Nat.reduceMod, Nat.reduceLT, Nat.reduceMul, Nat.reduceSub, Int.reduceToNat, Int.reduceNeg, Int.reduceLT, Int.reduceLE, Int.reduceEq, Nat.reduceEqDiff, Nat.reduceAdd, Nat.reduceLeDiff, reduceIte, reduceCtorEq, Nat.reduceBEq, tysA, i64, mkV, mkO, w1, w2, Mk.next, Mk.less, hd0, h3, hlp, hq, hu]
  all_goals first | exact ⟨rfl, rfl⟩ | exact ⟨rfl, trivial⟩ | rfl | trivial | (rw [reV_eq]; rfl)

set_option maxRecDepth 100000 in
set_option maxHeartbeats 8000000 in
theorem tree_q18 (d : Nat) (hd : d ≤ 1000) (hz : zD d ≤ 1000000000) (ht : TreeOK d) (m : Mk) (b : Int) (hb : 0 ≤ b) (hm : m.In b) (hs : b + cD (d + 1) ≤ 1000000000) (h3 : ¬ m.left - 1 < 3) (hlp : ¬ (m.l.length : Int) < m.pos + 1) (hq : pick m.l m.pos 20 = 18) (hu : 0 < bitV .and .i64 m.uses 2) (hcp : 0 < m.caps) :
    callWp Try.prog 53 [mkV, i64 (d + 1 : Nat)] [mkO m] fun v s => v = reV (m.tree (d + 1)).1 ∧ s = [mkO (m.tree (d + 1)).2] := by
  have hc := cD_nonneg d
  have hcd : cD (d + 1) = 2 + 4 * (cD d + 1) := rfl
  have w1 : IntKind.i64.wrap (m.left - 1) = m.left - 1 := w64 _ (by have := hm.l0; have := hm.l1; omega)
  have w2 : IntKind.i64.wrap ((d + 1 : Nat) - 1 : Int) = (d : Int) := by rw [w64 _ (by omega)]; omega
  have hd0 : ¬ ((d + 1 : Nat) : Int) = 0 := by omega
  have hpos : 0 ≤ m.pos ∧ m.pos ≤ 1000000000 := ⟨hm.p0, by have := hm.p1; omega⟩
  have hy : (m.less.next 20).2.In (b + 2) := by have := hm.left.next 20; rwa [Int.add_assoc] at this
  have hyp : 0 ≤ (m.less.next 20).2.pos ∧ (m.less.next 20).2.pos ≤ 1000000000 := by have := hm.p1; simp only [Mk.next, Mk.less]; omega
  have c0 := hm.c0
  have c1 := hm.c1
  refine fn_ok Try.func53 rfl Try.ntmps53 Try.results53 rfl 1 499 (by simp) (by simp) ?_
  simp only [vsA, vsB, vsC, appendWp, Nat.reduceShiftRight, Nat.reduceMod, Nat.reduceLT, Nat.reduceMul, Nat.reduceSub, Int.reduceToNat, Int.reduceNeg, Int.reduceLT, Int.reduceLE, Int.reduceEq, Nat.reduceEqDiff, Nat.reduceAdd, Nat.reduceLeDiff, reduceIte, reduceCtorEq, Nat.reduceBEq, tysA, i64, mkV, mkO, w1]
  refine call_one (next_ok m.less hm.l hpos 20 (by omega)) rfl rfl rfl rfl rfl rfl ?_
  simp only [vsA, vsB, vsC, appendWp, Nat.reduceShiftRight, Nat.reduceMod, Nat.reduceLT, Nat.reduceMul, Nat.reduceSub, Int.reduceToNat, Int.reduceNeg, Int.reduceLT, Int.reduceLE, Int.reduceEq, Nat.reduceEqDiff, Nat.reduceAdd, Nat.reduceLeDiff, reduceIte, reduceCtorEq, Nat.reduceBEq, tysA, i64, mkV, mkO, w1, Mk.next, Mk.less]
  refine draw_c mix [] [] (by rfl) ?_
  rw [tree_node h3 hlp]
  have hp2 := pick_range m.l (m.pos + 1) m.caps (by omega)
  have w3 : IntKind.i64.wrap (1 + pick m.l (m.pos + 1) m.caps) = 1 + pick m.l (m.pos + 1) m.caps := w64 _ (by omega)
  obtain ⟨g1, g2⟩ := tree_good d ((m.less.next 20).2.next m.caps).2 (b + 3) (by omega) ((hy.next m.caps).mono (by omega))
  have hn : Mk.node (Mk.tree d) (pick m.l m.pos 20) (m.less.next 20).2 = (.mk 10 [] [(Mk.tree d ((m.less.next 20).2.next m.caps).2).1, (Mk.tree d (Mk.tree d ((m.less.next 20).2.next m.caps).2).2).1] 0 0 0 (1 + ((m.less.next 20).2.next m.caps).1) false, (Mk.tree d (Mk.tree d ((m.less.next 20).2.next m.caps).2).2).2) := by simp [Mk.node, Mk.has, Mk.next, Mk.less, hq, hu, hcp, w3]
  rw [hn]
  simp only [vsA, vsB, vsC, appendWp, Nat.reduceShiftRight, Nat.reduceMod, Nat.reduceLT, Nat.reduceMul, Nat.reduceSub, Int.reduceToNat, Int.reduceNeg, Int.reduceLT, Int.reduceLE, Int.reduceEq, Nat.reduceEqDiff, Nat.reduceAdd, Nat.reduceLeDiff, reduceIte, reduceCtorEq, Nat.reduceBEq, tysA, i64, mkV, mkO, w1, w2, Mk.next, Mk.less, hd0, h3, hlp, hq, hu, hcp, w3]
  refine call_one (next_ok (m.less.next 20).2 hm.l hyp m.caps (by omega)) rfl rfl rfl rfl rfl (by first | rfl | exact renV_reV _ _) ?_
  simp only [vsA, vsB, vsC, appendWp, Nat.reduceShiftRight, Nat.reduceMod, Nat.reduceLT, Nat.reduceMul, Nat.reduceSub, Int.reduceToNat, Int.reduceNeg, Int.reduceLT, Int.reduceLE, Int.reduceEq, Nat.reduceEqDiff, Nat.reduceAdd, Nat.reduceLeDiff, reduceIte, reduceCtorEq, Nat.reduceBEq, tysA, i64, mkV, mkO, w1, w2, Mk.next, Mk.less, hd0, h3, hlp, hq, hu, hcp, w3]
  refine call_one (ht ((m.less.next 20).2.next m.caps).2 (b + 3) (by omega) ((hy.next m.caps).mono (by omega)) (by omega)) rfl rfl rfl rfl rfl (by first | rfl | exact renV_reV _ _) ?_
  simp only [vsA, vsB, vsC, appendWp, Nat.reduceShiftRight, Nat.reduceMod, Nat.reduceLT, Nat.reduceMul, Nat.reduceSub, Int.reduceToNat, Int.reduceNeg, Int.reduceLT, Int.reduceLE, Int.reduceEq, Nat.reduceEqDiff, Nat.reduceAdd, Nat.reduceLeDiff, reduceIte, reduceCtorEq, Nat.reduceBEq, tysA, i64, mkV, mkO, w1, w2, Mk.next, Mk.less, hd0, h3, hlp, hq, hu, hcp, w3]
  refine draw_c mix [8] [(1, [2], []), (5, [0], [0])] (by rfl) ?_
  simp only [vsA, vsB, vsC, appendWp, Nat.reduceShiftRight, Nat.reduceMod, Nat.reduceLT, Nat.reduceMul, Nat.reduceSub, Int.reduceToNat, Int.reduceNeg, Int.reduceLT, Int.reduceLE, Int.reduceEq, Nat.reduceEqDiff, Nat.reduceAdd, Nat.reduceLeDiff, reduceIte, reduceCtorEq, Nat.reduceBEq, tysA, i64, mkV, mkO, w1, w2, Mk.next, Mk.less, hd0, h3, hlp, hq, hu, hcp, w3]
  refine callF_one (ht (Mk.tree d ((m.less.next 20).2.next m.caps).2).2 (b + 3 + cD d) (by omega) g1 (by omega)) rfl rfl rfl rfl rfl (renV_reV _ _) ?_
  simp only [vsA, vsB, vsC, appendWp, Nat.reduceShiftRight, Nat.reduceMod, Nat.reduceLT, Nat.reduceMul, Nat.reduceSub, Int.reduceToNat, Int.reduceNeg, Int.reduceLT, Int.reduceLE, Int.reduceEq, Nat.reduceEqDiff, Nat.reduceAdd, Nat.reduceLeDiff, reduceIte, reduceCtorEq, Nat.reduceBEq, tysA, i64, mkV, mkO, w1, w2, Mk.next, Mk.less, hd0, h3, hlp, hq, hu, hcp, w3]
  all_goals first | exact ⟨rfl, rfl⟩ | exact ⟨rfl, trivial⟩ | rfl | trivial | (rw [reV_eq]; rfl)

set_option maxRecDepth 100000 in
set_option maxHeartbeats 8000000 in
theorem tree_q18m (d : Nat) (hd : d ≤ 1000) (hz : zD d ≤ 1000000000) (ht : TreeOK d) (m : Mk) (b : Int) (hb : 0 ≤ b) (hm : m.In b) (hs : b + cD (d + 1) ≤ 1000000000) (h3 : ¬ m.left - 1 < 3) (hlp : ¬ (m.l.length : Int) < m.pos + 1) (hq : pick m.l m.pos 20 = 18) (hu : 0 < bitV .and .i64 m.uses 2) (hcp : ¬ 0 < m.caps) :
    callWp Try.prog 53 [mkV, i64 (d + 1 : Nat)] [mkO m] fun v s => v = reV (m.tree (d + 1)).1 ∧ s = [mkO (m.tree (d + 1)).2] := by
  have hc := cD_nonneg d
  have hcd : cD (d + 1) = 2 + 4 * (cD d + 1) := rfl
  have w1 : IntKind.i64.wrap (m.left - 1) = m.left - 1 := w64 _ (by have := hm.l0; have := hm.l1; omega)
  have w2 : IntKind.i64.wrap ((d + 1 : Nat) - 1 : Int) = (d : Int) := by rw [w64 _ (by omega)]; omega
  have hd0 : ¬ ((d + 1 : Nat) : Int) = 0 := by omega
  have hpos : 0 ≤ m.pos ∧ m.pos ≤ 1000000000 := ⟨hm.p0, by have := hm.p1; omega⟩
  have hy : (m.less.next 20).2.In (b + 2) := by have := hm.left.next 20; rwa [Int.add_assoc] at this
  have hyp : 0 ≤ (m.less.next 20).2.pos ∧ (m.less.next 20).2.pos ≤ 1000000000 := by have := hm.p1; simp only [Mk.next, Mk.less]; omega
  have c0 := hm.c0
  have c1 := hm.c1
  refine fn_ok Try.func53 rfl Try.ntmps53 Try.results53 rfl 1 499 (by simp) (by simp) ?_
  simp only [vsA, vsB, vsC, appendWp, Nat.reduceShiftRight, Nat.reduceMod, Nat.reduceLT, Nat.reduceMul, Nat.reduceSub, Int.reduceToNat, Int.reduceNeg, Int.reduceLT, Int.reduceLE, Int.reduceEq, Nat.reduceEqDiff, Nat.reduceAdd, Nat.reduceLeDiff, reduceIte, reduceCtorEq, Nat.reduceBEq, tysA, i64, mkV, mkO, w1]
  refine call_one (next_ok m.less hm.l hpos 20 (by omega)) rfl rfl rfl rfl rfl rfl ?_
  simp only [vsA, vsB, vsC, appendWp, Nat.reduceShiftRight, Nat.reduceMod, Nat.reduceLT, Nat.reduceMul, Nat.reduceSub, Int.reduceToNat, Int.reduceNeg, Int.reduceLT, Int.reduceLE, Int.reduceEq, Nat.reduceEqDiff, Nat.reduceAdd, Nat.reduceLeDiff, reduceIte, reduceCtorEq, Nat.reduceBEq, tysA, i64, mkV, mkO, w1, Mk.next, Mk.less]
  refine draw_c mix [] [] (by rfl) ?_
  rw [tree_node h3 hlp]
  have hn : Mk.node (Mk.tree d) (pick m.l m.pos 20) (m.less.next 20).2 = (m.less.next 20).2.set := by simp [Mk.node, Mk.has, Mk.next, Mk.less, hq, hu, hcp]
  rw [hn]
  simp only [vsA, vsB, vsC, appendWp, Nat.reduceShiftRight, Nat.reduceMod, Nat.reduceLT, Nat.reduceMul, Nat.reduceSub, Int.reduceToNat, Int.reduceNeg, Int.reduceLT, Int.reduceLE, Int.reduceEq, Nat.reduceEqDiff, Nat.reduceAdd, Nat.reduceLeDiff, reduceIte, reduceCtorEq, Nat.reduceBEq, tysA, i64, mkV, mkO, w1, w2, Mk.next, Mk.less, hd0, h3, hlp, hq, hu, hcp]
  refine call_one (set_ok (m.less.next 20).2 hm.l hyp) rfl rfl rfl rfl rfl (by first | rfl | exact renV_reV _ _) ?_
  simp only [vsA, vsB, vsC, appendWp, Nat.reduceShiftRight, Nat.reduceMod, Nat.reduceLT, Nat.reduceMul, Nat.reduceSub, Int.reduceToNat, Int.reduceNeg, Int.reduceLT, Int.reduceLE, Int.reduceEq, Nat.reduceEqDiff, Nat.reduceAdd, Nat.reduceLeDiff, reduceIte, reduceCtorEq, Nat.reduceBEq, tysA, i64, mkV, mkO, w1, w2, Mk.next, Mk.less, hd0, h3, hlp, hq, hu, hcp]
  all_goals first | exact ⟨rfl, rfl⟩ | exact ⟨rfl, trivial⟩ | rfl | trivial | (rw [reV_eq]; rfl)

set_option maxRecDepth 100000 in
set_option maxHeartbeats 8000000 in
theorem tree_q18n (d : Nat) (hd : d ≤ 1000) (hz : zD d ≤ 1000000000) (ht : TreeOK d) (m : Mk) (b : Int) (hb : 0 ≤ b) (hm : m.In b) (hs : b + cD (d + 1) ≤ 1000000000) (h3 : ¬ m.left - 1 < 3) (hlp : ¬ (m.l.length : Int) < m.pos + 1) (hq : pick m.l m.pos 20 = 18) (hu : ¬ 0 < bitV .and .i64 m.uses 2) :
    callWp Try.prog 53 [mkV, i64 (d + 1 : Nat)] [mkO m] fun v s => v = reV (m.tree (d + 1)).1 ∧ s = [mkO (m.tree (d + 1)).2] := by
  have hc := cD_nonneg d
  have hcd : cD (d + 1) = 2 + 4 * (cD d + 1) := rfl
  have w1 : IntKind.i64.wrap (m.left - 1) = m.left - 1 := w64 _ (by have := hm.l0; have := hm.l1; omega)
  have w2 : IntKind.i64.wrap ((d + 1 : Nat) - 1 : Int) = (d : Int) := by rw [w64 _ (by omega)]; omega
  have hd0 : ¬ ((d + 1 : Nat) : Int) = 0 := by omega
  have hpos : 0 ≤ m.pos ∧ m.pos ≤ 1000000000 := ⟨hm.p0, by have := hm.p1; omega⟩
  have hy : (m.less.next 20).2.In (b + 2) := by have := hm.left.next 20; rwa [Int.add_assoc] at this
  have hyp : 0 ≤ (m.less.next 20).2.pos ∧ (m.less.next 20).2.pos ≤ 1000000000 := by have := hm.p1; simp only [Mk.next, Mk.less]; omega
  have c0 := hm.c0
  have c1 := hm.c1
  refine fn_ok Try.func53 rfl Try.ntmps53 Try.results53 rfl 1 499 (by simp) (by simp) ?_
  simp only [vsA, vsB, vsC, appendWp, Nat.reduceShiftRight, Nat.reduceMod, Nat.reduceLT, Nat.reduceMul, Nat.reduceSub, Int.reduceToNat, Int.reduceNeg, Int.reduceLT, Int.reduceLE, Int.reduceEq, Nat.reduceEqDiff, Nat.reduceAdd, Nat.reduceLeDiff, reduceIte, reduceCtorEq, Nat.reduceBEq, tysA, i64, mkV, mkO, w1]
  refine call_one (next_ok m.less hm.l hpos 20 (by omega)) rfl rfl rfl rfl rfl rfl ?_
  simp only [vsA, vsB, vsC, appendWp, Nat.reduceShiftRight, Nat.reduceMod, Nat.reduceLT, Nat.reduceMul, Nat.reduceSub, Int.reduceToNat, Int.reduceNeg, Int.reduceLT, Int.reduceLE, Int.reduceEq, Nat.reduceEqDiff, Nat.reduceAdd, Nat.reduceLeDiff, reduceIte, reduceCtorEq, Nat.reduceBEq, tysA, i64, mkV, mkO, w1, Mk.next, Mk.less]
  refine draw_c mix [] [] (by rfl) ?_
  rw [tree_node h3 hlp]
  have hn : Mk.node (Mk.tree d) (pick m.l m.pos 20) (m.less.next 20).2 = (m.less.next 20).2.set := by simp [Mk.node, Mk.has, Mk.next, Mk.less, hq, hu]
  rw [hn]
  simp only [vsA, vsB, vsC, appendWp, Nat.reduceShiftRight, Nat.reduceMod, Nat.reduceLT, Nat.reduceMul, Nat.reduceSub, Int.reduceToNat, Int.reduceNeg, Int.reduceLT, Int.reduceLE, Int.reduceEq, Nat.reduceEqDiff, Nat.reduceAdd, Nat.reduceLeDiff, reduceIte, reduceCtorEq, Nat.reduceBEq, tysA, i64, mkV, mkO, w1, w2, Mk.next, Mk.less, hd0, h3, hlp, hq, hu]
  refine call_one (set_ok (m.less.next 20).2 hm.l hyp) rfl rfl rfl rfl rfl (by first | rfl | exact renV_reV _ _) ?_
  simp only [vsA, vsB, vsC, appendWp, Nat.reduceShiftRight, Nat.reduceMod, Nat.reduceLT, Nat.reduceMul, Nat.reduceSub, Int.reduceToNat, Int.reduceNeg, Int.reduceLT, Int.reduceLE, Int.reduceEq, Nat.reduceEqDiff, Nat.reduceAdd, Nat.reduceLeDiff, reduceIte, reduceCtorEq, Nat.reduceBEq, tysA, i64, mkV, mkO, w1, w2, Mk.next, Mk.less, hd0, h3, hlp, hq, hu]
  all_goals first | exact ⟨rfl, rfl⟩ | exact ⟨rfl, trivial⟩ | rfl | trivial | (rw [reV_eq]; rfl)

set_option maxRecDepth 100000 in
set_option maxHeartbeats 8000000 in
theorem tree_q19 (d : Nat) (hd : d ≤ 1000) (hz : zD d ≤ 1000000000) (ht : TreeOK d) (m : Mk) (b : Int) (hb : 0 ≤ b) (hm : m.In b) (hs : b + cD (d + 1) ≤ 1000000000) (h3 : ¬ m.left - 1 < 3) (hlp : ¬ (m.l.length : Int) < m.pos + 1) (hq : pick m.l m.pos 20 = 19) :
    callWp Try.prog 53 [mkV, i64 (d + 1 : Nat)] [mkO m] fun v s => v = reV (m.tree (d + 1)).1 ∧ s = [mkO (m.tree (d + 1)).2] := by
  have hc := cD_nonneg d
  have hcd : cD (d + 1) = 2 + 4 * (cD d + 1) := rfl
  have w1 : IntKind.i64.wrap (m.left - 1) = m.left - 1 := w64 _ (by have := hm.l0; have := hm.l1; omega)
  have w2 : IntKind.i64.wrap ((d + 1 : Nat) - 1 : Int) = (d : Int) := by rw [w64 _ (by omega)]; omega
  have hd0 : ¬ ((d + 1 : Nat) : Int) = 0 := by omega
  have hpos : 0 ≤ m.pos ∧ m.pos ≤ 1000000000 := ⟨hm.p0, by have := hm.p1; omega⟩
  have hy : (m.less.next 20).2.In (b + 2) := by have := hm.left.next 20; rwa [Int.add_assoc] at this
  have hyp : 0 ≤ (m.less.next 20).2.pos ∧ (m.less.next 20).2.pos ≤ 1000000000 := by have := hm.p1; simp only [Mk.next, Mk.less]; omega
  have c0 := hm.c0
  have c1 := hm.c1
  refine fn_ok Try.func53 rfl Try.ntmps53 Try.results53 rfl 1 499 (by simp) (by simp) ?_
  simp only [vsA, vsB, vsC, appendWp, Nat.reduceShiftRight, Nat.reduceMod, Nat.reduceLT, Nat.reduceMul, Nat.reduceSub, Int.reduceToNat, Int.reduceNeg, Int.reduceLT, Int.reduceLE, Int.reduceEq, Nat.reduceEqDiff, Nat.reduceAdd, Nat.reduceLeDiff, reduceIte, reduceCtorEq, Nat.reduceBEq, tysA, i64, mkV, mkO, w1]
  refine call_one (next_ok m.less hm.l hpos 20 (by omega)) rfl rfl rfl rfl rfl rfl ?_
  simp only [vsA, vsB, vsC, appendWp, Nat.reduceShiftRight, Nat.reduceMod, Nat.reduceLT, Nat.reduceMul, Nat.reduceSub, Int.reduceToNat, Int.reduceNeg, Int.reduceLT, Int.reduceLE, Int.reduceEq, Nat.reduceEqDiff, Nat.reduceAdd, Nat.reduceLeDiff, reduceIte, reduceCtorEq, Nat.reduceBEq, tysA, i64, mkV, mkO, w1, Mk.next, Mk.less]
  refine draw_c mix [] [] (by rfl) ?_
  rw [tree_node h3 hlp]
  have hn : Mk.node (Mk.tree d) (pick m.l m.pos 20) (m.less.next 20).2 = (m.less.next 20).2.set := by simp [Mk.node, Mk.has, Mk.next, Mk.less, hq]
  rw [hn]
  simp only [vsA, vsB, vsC, appendWp, Nat.reduceShiftRight, Nat.reduceMod, Nat.reduceLT, Nat.reduceMul, Nat.reduceSub, Int.reduceToNat, Int.reduceNeg, Int.reduceLT, Int.reduceLE, Int.reduceEq, Nat.reduceEqDiff, Nat.reduceAdd, Nat.reduceLeDiff, reduceIte, reduceCtorEq, Nat.reduceBEq, tysA, i64, mkV, mkO, w1, w2, Mk.next, Mk.less, hd0, h3, hlp, hq]
  refine call_one (set_ok (m.less.next 20).2 hm.l hyp) rfl rfl rfl rfl rfl (by first | rfl | exact renV_reV _ _) ?_
  simp only [vsA, vsB, vsC, appendWp, Nat.reduceShiftRight, Nat.reduceMod, Nat.reduceLT, Nat.reduceMul, Nat.reduceSub, Int.reduceToNat, Int.reduceNeg, Int.reduceLT, Int.reduceLE, Int.reduceEq, Nat.reduceEqDiff, Nat.reduceAdd, Nat.reduceLeDiff, reduceIte, reduceCtorEq, Nat.reduceBEq, tysA, i64, mkV, mkO, w1, w2, Mk.next, Mk.less, hd0, h3, hlp, hq]
  all_goals first | exact ⟨rfl, rfl⟩ | exact ⟨rfl, trivial⟩ | rfl | trivial | (rw [reV_eq]; rfl)

theorem tree_succ (d : Nat) (hd : d ≤ 1000) (hz : zD d ≤ 1000000000) (ht : TreeOK d) : TreeOK (d + 1) := by
  intro m b hb hm hs
  have hk := pick_range m.l m.pos 20 (by omega)
  by_cases h3 : m.left - 1 < 3
  · exact tree_leaf1 d hd hz ht m b hb hm hs h3
  by_cases hlp : (m.l.length : Int) < m.pos + 1
  · exact tree_leaf2 d hd hz ht m b hb hm hs h3 hlp
  by_cases h5 : pick m.l m.pos 20 < 5
  · exact tree_cat d hd hz ht m b hb hm hs h3 hlp h5
  by_cases h8 : pick m.l m.pos 20 < 8
  · exact tree_alt d hd hz ht m b hb hm hs h3 hlp h5 h8
  by_cases h12 : pick m.l m.pos 20 < 12
  · exact tree_rep d hd hz ht m b hb hm hs h3 hlp h5 h8 h12
  have hcase : pick m.l m.pos 20 = 12 ∨ pick m.l m.pos 20 = 13 ∨ pick m.l m.pos 20 = 14 ∨ pick m.l m.pos 20 = 15 ∨ pick m.l m.pos 20 = 16 ∨ pick m.l m.pos 20 = 17 ∨ pick m.l m.pos 20 = 18 ∨ pick m.l m.pos 20 = 19 := by omega
  rcases hcase with hq | hq | hq | hq | hq | hq | hq | hq
  · by_cases hu : 0 < bitV .and .i64 m.uses 64
    · exact tree_q12 d hd hz ht m b hb hm hs h3 hlp hq hu
    · exact tree_q12n d hd hz ht m b hb hm hs h3 hlp hq hu
  · by_cases hu : 0 < bitV .and .i64 m.uses 64
    · exact tree_q13 d hd hz ht m b hb hm hs h3 hlp hq hu
    · exact tree_q13n d hd hz ht m b hb hm hs h3 hlp hq hu
  · by_cases hu : 0 < bitV .and .i64 m.uses 16
    · exact tree_q14 d hd hz ht m b hb hm hs h3 hlp hq hu
    · exact tree_q14n d hd hz ht m b hb hm hs h3 hlp hq hu
  · by_cases hu : 0 < bitV .and .i64 m.uses 4
    · exact tree_q15 d hd hz ht m b hb hm hs h3 hlp hq hu
    · exact tree_q15n d hd hz ht m b hb hm hs h3 hlp hq hu
  · by_cases hu : 0 < bitV .and .i64 m.uses 8
    · exact tree_q16 d hd hz ht m b hb hm hs h3 hlp hq hu
    · exact tree_q16n d hd hz ht m b hb hm hs h3 hlp hq hu
  · by_cases hu : 0 < bitV .and .i64 m.uses 1
    · by_cases hcp : 0 < m.caps
      · exact tree_q17 d hd hz ht m b hb hm hs h3 hlp hq hu hcp
      · exact tree_q17m d hd hz ht m b hb hm hs h3 hlp hq hu hcp
    · exact tree_q17n d hd hz ht m b hb hm hs h3 hlp hq hu
  · by_cases hu : 0 < bitV .and .i64 m.uses 2
    · by_cases hcp : 0 < m.caps
      · exact tree_q18 d hd hz ht m b hb hm hs h3 hlp hq hu hcp
      · exact tree_q18m d hd hz ht m b hb hm hs h3 hlp hq hu hcp
    · exact tree_q18n d hd hz ht m b hb hm hs h3 hlp hq hu
  · exact tree_q19 d hd hz ht m b hb hm hs h3 hlp hq

theorem tree_ok : ∀ d, d ≤ 1000 → zD d ≤ 1000000000 → TreeOK d
  | 0, _, _ => tree_zero
  | d + 1, hd, hz => tree_succ d (by omega) (by have := zD_pos d; simp only [zD] at hz; omega) (tree_ok d (by omega) (by have := zD_pos d; simp only [zD] at hz; omega))

end Go.Proofs.Ytafbdphblilenaa

set_option linter.unusedSimpArgs false
set_option linter.unusedVariables false
namespace Go.Proofs.Ytafbdphblilenaa
open Go.VL

/-- A pattern. -/
structure Pat where
  re : Re
  caps : Int
  runes : Bool

def patV (p : Pat) : V := .ag (p.re.cells.map .d ++ [i64 p.caps, bV p.runes])

def patOf (l : List Int) (uses most : Int) : Pat :=
  let x := Mk.tree 5 ⟨l, 0, uses, most, 0⟩
  ⟨x.1, x.2.caps, false⟩

theorem renO_mkO (ρ : List Nat) (m : Mk) : renO ρ (mkO m) = mkO m := rfl

theorem take_cells_app (re : Re) (l : List V) : (re.cells.map V.d ++ l).take 8 = re.cells.map V.d := List.take_left' (by simp [Re.cells_len])

theorem drop_cells_app (re : Re) (l : List V) (n : Nat) : (re.cells.map V.d ++ l).drop (n + 8) = l.drop n := by
  rw [Nat.add_comm, ← List.drop_drop, List.drop_left' (by simp [Re.cells_len])]

set_option maxRecDepth 100000 in
set_option maxHeartbeats 4000000 in
theorem pattern_ok (l : List Int) (uses most : Int) (hl : ∀ x ∈ l, I64 x) (h0 : 0 ≤ most) (h1 : most ≤ 1000000) : PureOK Try.prog 12 [.d (intsD l), i64 uses, i64 most] (patV (patOf l uses most)) := by
  refine fn_ok Try.func12 rfl Try.ntmps12 Try.results12 rfl 0 455 (by simp) (by simp) ?_
  simp only [vsA, vsB, vsC, appendWp, Nat.reduceShiftRight, Nat.reduceMod, Nat.reduceLT, Nat.reduceMul, Nat.reduceSub, Int.reduceToNat, Int.reduceNeg, Int.reduceLT, Int.reduceLE, Int.reduceEq, Nat.reduceEqDiff, Nat.reduceAdd, Nat.reduceLeDiff, reduceIte, reduceCtorEq, Nat.reduceBEq, tysA, i64]
  refine call_at 1 (tree_ok 5 (by omega) (by decide) ⟨l, 0, uses, most, 0⟩ 0 (by omega) ⟨hl, by simp, by simp, by simpa using h0, h1, by simp, by simp⟩ (by decide)) rfl rfl rfl rfl (renV_reV _ _) ?_
  rw [renO_mkO]
  have hR : patOf l uses most = ⟨(Mk.tree 5 ⟨l, 0, uses, most, 0⟩).1, (Mk.tree 5 ⟨l, 0, uses, most, 0⟩).2.caps, false⟩ := rfl
  rw [hR]
  generalize Mk.tree 5 ⟨l, 0, uses, most, 0⟩ = R
  simp only [vsA, vsB, vsC, appendWp, Nat.reduceShiftRight, Nat.reduceMod, Nat.reduceLT, Nat.reduceMul, Nat.reduceSub, Int.reduceToNat, Int.reduceNeg, Int.reduceLT, Int.reduceLE, Int.reduceEq, Nat.reduceEqDiff, Nat.reduceAdd, Nat.reduceLeDiff, reduceIte, reduceCtorEq, Nat.reduceBEq, tysA, i64]
  refine draw_c mix [6] [] (by rfl) ?_
  simp only [vsA, vsB, vsC, appendWp, Nat.reduceShiftRight, Nat.reduceMod, Nat.reduceLT, Nat.reduceMul, Nat.reduceSub, Int.reduceToNat, Int.reduceNeg, Int.reduceLT, Int.reduceLE, Int.reduceEq, Nat.reduceEqDiff, Nat.reduceAdd, Nat.reduceLeDiff, reduceIte, reduceCtorEq, Nat.reduceBEq, tysA, i64, mkO, take_cells_app, drop_cells_app, List.length_append]
  simp only [vsA, vsB, vsC, appendWp, Nat.reduceShiftRight, Nat.reduceMod, Nat.reduceLT, Nat.reduceMul, Nat.reduceSub, Int.reduceToNat, Int.reduceNeg, Int.reduceLT, Int.reduceLE, Int.reduceEq, Nat.reduceEqDiff, Nat.reduceAdd, Nat.reduceLeDiff, reduceIte, reduceCtorEq, Nat.reduceBEq, tysA, Re.cells_eq, patV, bV, i64]

end Go.Proofs.Ytafbdphblilenaa

set_option linter.unusedSimpArgs false
set_option linter.unusedVariables false
namespace Go.Proofs.Ytafbdphblilenaa
open Go.VL

/-! ### The reference's lengths -/

set_option maxHeartbeats 1000000 in
theorem refPlus_ok (a b : Int) : PureOK Try.prog 70 [i64 a, i64 b] (i64 (lplus a b)) := by
  refine fn_ok Try.func70 rfl Try.ntmps70 Try.results70 rfl 0 19 (by simp) (by simp) ?_
  by_cases ha : a < 0
  · simp only [vsA, vsB, vsC, appendWp, Nat.reduceShiftRight, Nat.reduceMod, Nat.reduceLT, Nat.reduceMul, Nat.reduceSub, Int.reduceToNat, Int.reduceNeg, Int.reduceLT, Int.reduceLE, Int.reduceEq, Nat.reduceEqDiff, Nat.reduceAdd, Nat.reduceLeDiff, reduceIte, reduceCtorEq, Nat.reduceBEq, tysA, i64, ha]
    simp [lplus, ha]
  · by_cases hb : b < 0
    · simp only [vsA, vsB, vsC, appendWp, Nat.reduceShiftRight, Nat.reduceMod, Nat.reduceLT, Nat.reduceMul, Nat.reduceSub, Int.reduceToNat, Int.reduceNeg, Int.reduceLT, Int.reduceLE, Int.reduceEq, Nat.reduceEqDiff, Nat.reduceAdd, Nat.reduceLeDiff, reduceIte, reduceCtorEq, Nat.reduceBEq, tysA, i64, ha, hb]
      simp [lplus, ha, hb]
    · simp only [vsA, vsB, vsC, appendWp, Nat.reduceShiftRight, Nat.reduceMod, Nat.reduceLT, Nat.reduceMul, Nat.reduceSub, Int.reduceToNat, Int.reduceNeg, Int.reduceLT, Int.reduceLE, Int.reduceEq, Nat.reduceEqDiff, Nat.reduceAdd, Nat.reduceLeDiff, reduceIte, reduceCtorEq, Nat.reduceBEq, tysA, i64, ha, hb]
      simp [lplus, ha, hb]

set_option maxHeartbeats 1000000 in
theorem refGreater_ok (a b : Int) : PureOK Try.prog 71 [i64 a, i64 b] (i64 (lgreater a b)) := by
  refine fn_ok Try.func71 rfl Try.ntmps71 Try.results71 rfl 0 19 (by simp) (by simp) ?_
  by_cases ha : a < 0
  · simp only [vsA, vsB, vsC, appendWp, Nat.reduceShiftRight, Nat.reduceMod, Nat.reduceLT, Nat.reduceMul, Nat.reduceSub, Int.reduceToNat, Int.reduceNeg, Int.reduceLT, Int.reduceLE, Int.reduceEq, Nat.reduceEqDiff, Nat.reduceAdd, Nat.reduceLeDiff, reduceIte, reduceCtorEq, Nat.reduceBEq, tysA, i64, ha]
    simp [lgreater, ha]
  · by_cases hb : b < 0
    · simp only [vsA, vsB, vsC, appendWp, Nat.reduceShiftRight, Nat.reduceMod, Nat.reduceLT, Nat.reduceMul, Nat.reduceSub, Int.reduceToNat, Int.reduceNeg, Int.reduceLT, Int.reduceLE, Int.reduceEq, Nat.reduceEqDiff, Nat.reduceAdd, Nat.reduceLeDiff, reduceIte, reduceCtorEq, Nat.reduceBEq, tysA, i64, ha, hb]
      simp [lgreater, ha, hb]
    · simp only [vsA, vsB, vsC, appendWp, Nat.reduceShiftRight, Nat.reduceMod, Nat.reduceLT, Nat.reduceMul, Nat.reduceSub, Int.reduceToNat, Int.reduceNeg, Int.reduceLT, Int.reduceLE, Int.reduceEq, Nat.reduceEqDiff, Nat.reduceAdd, Nat.reduceLeDiff, reduceIte, reduceCtorEq, Nat.reduceBEq, tysA, i64, ha, hb]
      simp [lgreater, ha, hb]

set_option maxHeartbeats 1000000 in
theorem refTimes_ok (a b : Int) : PureOK Try.prog 72 [i64 a, i64 b] (i64 (ltimes a b)) := by
  refine fn_ok Try.func72 rfl Try.ntmps72 Try.results72 rfl 0 19 (by simp) (by simp) ?_
  by_cases ha0 : a = 0
  · simp only [vsA, vsB, vsC, appendWp, Nat.reduceShiftRight, Nat.reduceMod, Nat.reduceLT, Nat.reduceMul, Nat.reduceSub, Int.reduceToNat, Int.reduceNeg, Int.reduceLT, Int.reduceLE, Int.reduceEq, Nat.reduceEqDiff, Nat.reduceAdd, Nat.reduceLeDiff, reduceIte, reduceCtorEq, Nat.reduceBEq, tysA, i64, ha0]
    simp [ltimes, ha0]
  by_cases hb0 : b = 0
  · simp only [vsA, vsB, vsC, appendWp, Nat.reduceShiftRight, Nat.reduceMod, Nat.reduceLT, Nat.reduceMul, Nat.reduceSub, Int.reduceToNat, Int.reduceNeg, Int.reduceLT, Int.reduceLE, Int.reduceEq, Nat.reduceEqDiff, Nat.reduceAdd, Nat.reduceLeDiff, reduceIte, reduceCtorEq, Nat.reduceBEq, tysA, i64, ha0, hb0]
    simp [ltimes, ha0, hb0]
  by_cases ha : a < 0
  · simp only [vsA, vsB, vsC, appendWp, Nat.reduceShiftRight, Nat.reduceMod, Nat.reduceLT, Nat.reduceMul, Nat.reduceSub, Int.reduceToNat, Int.reduceNeg, Int.reduceLT, Int.reduceLE, Int.reduceEq, Nat.reduceEqDiff, Nat.reduceAdd, Nat.reduceLeDiff, reduceIte, reduceCtorEq, Nat.reduceBEq, tysA, i64, ha0, hb0, ha]
    simp [ltimes, ha0, hb0, ha]
  · by_cases hb : b < 0
    · simp only [vsA, vsB, vsC, appendWp, Nat.reduceShiftRight, Nat.reduceMod, Nat.reduceLT, Nat.reduceMul, Nat.reduceSub, Int.reduceToNat, Int.reduceNeg, Int.reduceLT, Int.reduceLE, Int.reduceEq, Nat.reduceEqDiff, Nat.reduceAdd, Nat.reduceLeDiff, reduceIte, reduceCtorEq, Nat.reduceBEq, tysA, i64, ha0, hb0, ha, hb]
      simp [ltimes, ha0, hb0, ha, hb]
    · simp only [vsA, vsB, vsC, appendWp, Nat.reduceShiftRight, Nat.reduceMod, Nat.reduceLT, Nat.reduceMul, Nat.reduceSub, Int.reduceToNat, Int.reduceNeg, Int.reduceLT, Int.reduceLE, Int.reduceEq, Nat.reduceEqDiff, Nat.reduceAdd, Nat.reduceLeDiff, reduceIte, reduceCtorEq, Nat.reduceBEq, tysA, i64, ha0, hb0, ha, hb]
      simp [ltimes, ha0, hb0, ha, hb]

end Go.Proofs.Ytafbdphblilenaa

set_option linter.unusedSimpArgs false
set_option linter.unusedVariables false
namespace Go.Proofs.Ytafbdphblilenaa
open Go.VL

/-! ### The reference's depth, and what a node uses -/

set_option maxRecDepth 100000 in
set_option maxHeartbeats 8000000 in
theorem refDepth_ok (re : Re) (hs : re.size ≤ 1000000000) : PureOK Try.prog 44 [reV re] (i64 re.depth) := by
  revert hs
  refine Re.ind (Q := fun re => re.size ≤ 1000000000 → PureOK Try.prog 44 [reV re] (i64 re.depth)) (fun re ih hs => ?_) re
  have hlen := Re.len_le re.kids
  have hsz := Re.size_eq re
  have hd := Re.depth_le re
  rw [Re.depth_eq] at hd ⊢
  refine fn_ok Try.func44 rfl Try.ntmps44 Try.results44 rfl 0 31 (by simp) (by simp) ?_
  simp only [vsA, vsB, vsC, appendWp, Nat.reduceShiftRight, Nat.reduceMod, Nat.reduceLT, Nat.reduceMul, Nat.reduceSub, Int.reduceToNat, Int.reduceNeg, Int.reduceLT, Int.reduceLE, Int.reduceEq, Nat.reduceEqDiff, Nat.reduceAdd, Nat.reduceLeDiff, reduceIte, reduceCtorEq, Nat.reduceBEq, tysA, i64, reV_eq re, iD, bD]
  refine loop_rule (fun n e s => ∃ i : Nat, n = re.kids.length - i ∧ i ≤ re.kids.length ∧ e 1 = .rf 0 0 0 0 ∧ e 3 = i64 (maxL ((re.kids.take i).map Re.depth)) ∧ e 4 = i64 i ∧ s = [⟨0, true, 8, [re.cells.map .d]⟩])
    ⟨_, _, _, Cln.refl, 0, rfl, by omega, rfl, rfl, rfl, by rw [Re.cells_eq re]; rfl⟩ ?_
  rintro n e s ⟨i, rfl, hi, h1, h3, h4, rfl⟩
  rcases Nat.lt_or_ge i re.kids.length with hlt | hge
  · obtain ⟨k, hk⟩ : ∃ k, re.kids[i]? = some k := ⟨_, List.getElem?_eq_getElem hlt⟩
    have hm := List.mem_of_getElem? hk
    have hks := Re.size_kid hm
    simp only [vsA, vsB, vsC, appendWp, Nat.reduceShiftRight, Nat.reduceMod, Nat.reduceLT, Nat.reduceMul, Nat.reduceSub, Int.reduceToNat, Int.reduceNeg, Int.reduceLT, Int.reduceLE, Int.reduceEq, Nat.reduceEqDiff, Nat.reduceAdd, Nat.reduceLeDiff, reduceIte, reduceCtorEq, Nat.reduceBEq, tysA, i64, Re.cells_eq re, iD, bD, h1, h3, h4, hlt, hk]
    refine call_pure (ih k hm (by omega)) (by simp [refsV, refsV.go, reV_eq, i64, bV, reEl]) (by simp [refsV, refsV.go, reV_eq, i64, bV, reEl]) ?_
    simp only [vsA, vsB, vsC, appendWp, Nat.reduceShiftRight, Nat.reduceMod, Nat.reduceLT, Nat.reduceMul, Nat.reduceSub, Int.reduceToNat, Int.reduceNeg, Int.reduceLT, Int.reduceLE, Int.reduceEq, Nat.reduceEqDiff, Nat.reduceAdd, Nat.reduceLeDiff, reduceIte, reduceCtorEq, Nat.reduceBEq, tysA, i64, Re.cells_eq re, iD, bD, h1, h3, h4]
    refine ⟨re.kids.length - (i + 1), _, _, by omega, Cln.refl, i + 1, rfl, hlt, ?_, ?_, ?_, rfl⟩ <;> (try simp only [keepE_app, List.contains_cons, List.contains_nil, Nat.reduceBEq, Bool.or_false, Bool.false_or, Bool.or_true, Bool.true_or, updE, trimE_upd, trimE_trim, trimE_app, Nat.reduceShiftRight, Nat.reduceMod, Nat.reduceEqDiff, if_true, if_false, reduceIte])
    · exact h1
    · rw [take_get hk, List.map_append, List.map_cons, List.map_nil, maxL_snoc]
    · rw [w64 _ (by omega)]; rfl
  · have hie : i = re.kids.length := by omega
    subst hie
    rw [List.take_length] at h3
    have w1 : IntKind.i64.wrap (maxL (re.kids.map Re.depth) + 1) = maxL (re.kids.map Re.depth) + 1 := w64 _ (by omega)
    simp only [vsA, vsB, vsC, appendWp, Nat.reduceShiftRight, Nat.reduceMod, Nat.reduceLT, Nat.reduceMul, Nat.reduceSub, Int.reduceToNat, Int.reduceNeg, Int.reduceLT, Int.reduceLE, Int.reduceEq, Nat.reduceEqDiff, Nat.reduceAdd, Nat.reduceLeDiff, reduceIte, reduceCtorEq, Nat.reduceBEq, tysA, i64, Re.cells_eq re, iD, bD, h1, h3, h4, Nat.lt_irrefl, w1]
    all_goals first | exact ⟨rfl, rfl⟩ | exact ⟨rfl, trivial⟩ | rfl | trivial | (rw [reV_eq]; rfl)

/-- What a node uses; nul: whether its first kid can be empty. -/
def usesN (op mode : Int) (nul : List Bool) : Int :=
  if op = 6 then 1 else if op = 10 then 2 else if op = 7 ∨ op = 8 then 4 else if op = 9 then 8 else if op = 11 then 16 else if op = 5 then 64
  else if op = 4 then
    let u := if mode = 2 then bitV .or .i64 0 8 else 0
    if nul.headD false = true then bitV .or .i64 u 32 else u
  else 0

set_option maxRecDepth 100000 in
set_option maxHeartbeats 8000000 in
theorem usesOf_ok (re : Re) (hs : re.fine = true) : PureOK Try.prog 74 [reEl re] (i64 (usesN re.op re.mode (re.kids.map Re.anul))) := by
  obtain ⟨hset1, hlen, hfk⟩ := Re.fine_spec hs
  by_cases o4 : re.op = 4
  · cases hk : re.kids with
    | nil =>
      by_cases hm : re.mode = 2
      · rw [show usesN re.op re.mode (([] : List Re).map Re.anul) = bitV .or .i64 0 8 by simp [usesN, o4, hm]]
        refine fn_ok Try.func74 rfl Try.ntmps74 Try.results74 rfl 0 4237 (by simp) (by simp) ?_
        simp only [vsA, vsB, vsC, appendWp, Nat.reduceShiftRight, Nat.reduceMod, Nat.reduceLT, Nat.reduceMul, Nat.reduceSub, Int.reduceToNat, Int.reduceNeg, Int.reduceLT, Int.reduceLE, Int.reduceEq, Nat.reduceEqDiff, Nat.reduceAdd, Nat.reduceLeDiff, reduceIte, reduceCtorEq, Nat.reduceBEq, tysA, i64, reEl, Re.cells_eq re, iD, bD, o4, hk, hm, Int.natCast_zero]
        all_goals first | exact ⟨rfl, rfl⟩ | exact ⟨rfl, trivial⟩ | rfl | trivial | (rw [reV_eq]; rfl)
      · rw [show usesN re.op re.mode (([] : List Re).map Re.anul) = 0 by simp [usesN, o4, hm]]
        refine fn_ok Try.func74 rfl Try.ntmps74 Try.results74 rfl 0 4237 (by simp) (by simp) ?_
        simp only [vsA, vsB, vsC, appendWp, Nat.reduceShiftRight, Nat.reduceMod, Nat.reduceLT, Nat.reduceMul, Nat.reduceSub, Int.reduceToNat, Int.reduceNeg, Int.reduceLT, Int.reduceLE, Int.reduceEq, Nat.reduceEqDiff, Nat.reduceAdd, Nat.reduceLeDiff, reduceIte, reduceCtorEq, Nat.reduceBEq, tysA, i64, reEl, Re.cells_eq re, iD, bD, o4, hk, hm, Int.natCast_zero]
        all_goals first | exact ⟨rfl, rfl⟩ | exact ⟨rfl, trivial⟩ | rfl | trivial | (rw [reV_eq]; rfl)
    | cons k l =>
      have hnk := nullable_ok k (hfk k (by rw [hk]; simp))
      have hp : (0 : Int) < (l.length : Int) + 1 := by omega
      by_cases hm : re.mode = 2
      all_goals
        cases hkn : k.anul
        all_goals
          rw [show usesN re.op re.mode ((k :: l).map Re.anul) = (if k.anul = true then bitV .or .i64 (if re.mode = 2 then bitV .or .i64 0 8 else 0) 32 else (if re.mode = 2 then bitV .or .i64 0 8 else 0)) by simp [usesN, o4]]
          simp only [hkn, hm]
          refine fn_ok Try.func74 rfl Try.ntmps74 Try.results74 rfl 0 4237 (by simp) (by simp) ?_
          simp only [vsA, vsB, vsC, appendWp, Nat.reduceShiftRight, Nat.reduceMod, Nat.reduceLT, Nat.reduceMul, Nat.reduceSub, Int.reduceToNat, Int.reduceNeg, Int.reduceLT, Int.reduceLE, Int.reduceEq, Nat.reduceEqDiff, Nat.reduceAdd, Nat.reduceLeDiff, reduceIte, reduceCtorEq, Nat.reduceBEq, tysA, i64, reEl, Re.cells_eq re, iD, bD, o4, hk, hm, Int.natCast_add, Int.natCast_one, hp]
          refine call_pure hnk (by simp [refsV, refsV.go, reV_eq, i64, bV, reEl]) (by simp [refsV, refsV.go, reV_eq, i64, bV, reEl]) ?_
          simp only [vsA, vsB, vsC, appendWp, Nat.reduceShiftRight, Nat.reduceMod, Nat.reduceLT, Nat.reduceMul, Nat.reduceSub, Int.reduceToNat, Int.reduceNeg, Int.reduceLT, Int.reduceLE, Int.reduceEq, Nat.reduceEqDiff, Nat.reduceAdd, Nat.reduceLeDiff, reduceIte, reduceCtorEq, Nat.reduceBEq, tysA, i64, bV, hkn, hm]
          all_goals first | exact ⟨rfl, rfl⟩ | exact ⟨rfl, trivial⟩ | rfl | trivial | (rw [reV_eq]; rfl)
  · by_cases p : re.op = 6 ∨ re.op = 10 ∨ re.op = 7 ∨ re.op = 8 ∨ re.op = 9 ∨ re.op = 11 ∨ re.op = 5
    · rcases p with p | p | p | p | p | p | p
      all_goals
        rw [p]
        refine fn_ok Try.func74 rfl Try.ntmps74 Try.results74 rfl 0 4237 (by simp) (by simp) ?_
        simp only [vsA, vsB, vsC, appendWp, Nat.reduceShiftRight, Nat.reduceMod, Nat.reduceLT, Nat.reduceMul, Nat.reduceSub, Int.reduceToNat, Int.reduceNeg, Int.reduceLT, Int.reduceLE, Int.reduceEq, Nat.reduceEqDiff, Nat.reduceAdd, Nat.reduceLeDiff, reduceIte, reduceCtorEq, Nat.reduceBEq, tysA, i64, reEl, Re.cells_eq re, iD, bD, p]
        all_goals first | exact ⟨rfl, rfl⟩ | exact ⟨rfl, trivial⟩ | rfl | trivial | (rw [reV_eq]; rfl)
    · have p6 : ¬ re.op = 6 := fun h => p (.inl h)
      have p10 : ¬ re.op = 10 := fun h => p (.inr (.inl h))
      have p7 : ¬ re.op = 7 := fun h => p (.inr (.inr (.inl h)))
      have p8 : ¬ re.op = 8 := fun h => p (.inr (.inr (.inr (.inl h))))
      have p9 : ¬ re.op = 9 := fun h => p (.inr (.inr (.inr (.inr (.inl h)))))
      have p11 : ¬ re.op = 11 := fun h => p (.inr (.inr (.inr (.inr (.inr (.inl h))))))
      have p5 : ¬ re.op = 5 := fun h => p (.inr (.inr (.inr (.inr (.inr (.inr h))))))
      rw [show usesN re.op re.mode (re.kids.map Re.anul) = 0 by simp [usesN, p6, p10, p7, p8, p9, p11, p5, o4]]
      refine fn_ok Try.func74 rfl Try.ntmps74 Try.results74 rfl 0 4237 (by simp) (by simp) ?_
      simp only [vsA, vsB, vsC, appendWp, Nat.reduceShiftRight, Nat.reduceMod, Nat.reduceLT, Nat.reduceMul, Nat.reduceSub, Int.reduceToNat, Int.reduceNeg, Int.reduceLT, Int.reduceLE, Int.reduceEq, Nat.reduceEqDiff, Nat.reduceAdd, Nat.reduceLeDiff, reduceIte, reduceCtorEq, Nat.reduceBEq, tysA, i64, reEl, Re.cells_eq re, iD, bD, p6, p10, p7, p8, p9, p11, p5, o4]
      all_goals first | exact ⟨rfl, rfl⟩ | exact ⟨rfl, trivial⟩ | rfl | trivial | (rw [reV_eq]; rfl)

end Go.Proofs.Ytafbdphblilenaa

set_option linter.unusedSimpArgs false
set_option linter.unusedVariables false
namespace Go.Proofs.Ytafbdphblilenaa
open Go.VL

/-! ### The reference's Valid -/

def kidsR (op : Int) : Int × Int :=
  if op = 2 ∨ op = 3 then (2, -1) else if op = 4 ∨ op = 5 ∨ op = 7 ∨ op = 8 ∨ op = 9 then (1, 1) else if op = 10 then (2, 2) else (0, 0)

set_option maxRecDepth 100000 in
set_option maxHeartbeats 8000000 in
theorem refKids_ok (op : Int) : PureOK Try.prog 118 [i64 op] (.tu [i64 (kidsR op).1, i64 (kidsR op).2]) := by
  have hcase : op = 2 ∨ op = 3 ∨ op = 4 ∨ op = 5 ∨ op = 7 ∨ op = 8 ∨ op = 9 ∨ op = 10 ∨ (¬ op = 2 ∧ ¬ op = 3 ∧ ¬ op = 4 ∧ ¬ op = 5 ∧ ¬ op = 7 ∧ ¬ op = 8 ∧ ¬ op = 9 ∧ ¬ op = 10) := by omega
  rcases hcase with p | p | p | p | p | p | p | p | ⟨p1, p2, p3, p4, p5, p6, p7, p8⟩
  all_goals
    first
      | (rw [p]
         refine fn_ok Try.func118 rfl Try.ntmps118 Try.results118 rfl 0 317 (by simp) (by simp) ?_
         simp only [vsA, vsB, vsC, appendWp, Nat.reduceShiftRight, Nat.reduceMod, Nat.reduceLT, Nat.reduceMul, Nat.reduceSub, Int.reduceToNat, Int.reduceNeg, Int.reduceLT, Int.reduceLE, Int.reduceEq, Nat.reduceEqDiff, Nat.reduceAdd, Nat.reduceLeDiff, reduceIte, reduceCtorEq, Nat.reduceBEq, tysA, i64]
         all_goals first | exact ⟨rfl, rfl⟩ | exact ⟨rfl, trivial⟩ | rfl | trivial | (rw [reV_eq]; rfl))
      | (rw [show kidsR op = (0, 0) by simp [kidsR, p1, p2, p3, p4, p5, p6, p7, p8]]
         refine fn_ok Try.func118 rfl Try.ntmps118 Try.results118 rfl 0 317 (by simp) (by simp) ?_
         simp only [vsA, vsB, vsC, appendWp, Nat.reduceShiftRight, Nat.reduceMod, Nat.reduceLT, Nat.reduceMul, Nat.reduceSub, Int.reduceToNat, Int.reduceNeg, Int.reduceLT, Int.reduceLE, Int.reduceEq, Nat.reduceEqDiff, Nat.reduceAdd, Nat.reduceLeDiff, reduceIte, reduceCtorEq, Nat.reduceBEq, tysA, i64, p1, p2, p3, p4, p5, p6, p7, p8]
         all_goals first | exact ⟨rfl, rfl⟩ | exact ⟨rfl, trivial⟩ | rfl | trivial | (rw [reV_eq]; rfl))

/-- Spans behind one that ends at p. -/
def spOk (top : Int) : Int → List (Int × Int) → Bool
  | _, [] => true
  | p, s :: l => decide (0 ≤ s.1 ∧ s.1 ≤ s.2 ∧ s.2 ≤ top ∧ p + 1 < s.1) && spOk top s.2 l

def spansR (l : List (Int × Int)) (top : Int) : Bool := decide (l.length ≤ 64) && spOk top (-2) l

def prevHi (l : List (Int × Int)) : Nat → Int
  | 0 => -2
  | i + 1 => (l[i]?.map (·.2)).getD 0

set_option maxRecDepth 100000 in
set_option maxHeartbeats 8000000 in
theorem refSpans_ok (l : List (Int × Int)) (hl : l.length ≤ 1000000000) (top : Int) (ht : top ≤ 1114111) : PureOK Try.prog 119 [.d (.sl (l.map spanC)), i64 top] (bV (spansR l top)) := by
  refine fn_ok Try.func119 rfl Try.ntmps119 Try.results119 rfl 0 51 (by simp) (by simp) ?_
  by_cases h64 : (64 : Int) < l.length
  · simp only [vsL, vsB, vsC, appendWp, Nat.reduceShiftRight, Nat.reduceMod, Nat.reduceLT, Nat.reduceMul, Nat.reduceSub, Int.reduceToNat, Int.reduceNeg, Int.reduceLT, Int.reduceLE, Int.reduceEq, Nat.reduceEqDiff, Nat.reduceAdd, Nat.reduceLeDiff, reduceIte, reduceCtorEq, Nat.reduceBEq, tysA, i64, h64]
    have : ¬ l.length ≤ 64 := by omega
    simp [spansR, bV, this]
  have h64' : l.length ≤ 64 := by omega
  have hR : spansR l top = spOk top (-2) l := by simp [spansR, h64']
  rw [hR]
  simp only [vsL, vsB, vsC, appendWp, Nat.reduceShiftRight, Nat.reduceMod, Nat.reduceLT, Nat.reduceMul, Nat.reduceSub, Int.reduceToNat, Int.reduceNeg, Int.reduceLT, Int.reduceLE, Int.reduceEq, Nat.reduceEqDiff, Nat.reduceAdd, Nat.reduceLeDiff, reduceIte, reduceCtorEq, Nat.reduceBEq, tysA, i64, h64]
  refine loop_rule (fun n e s => ∃ i : Nat, n = l.length - i ∧ i ≤ l.length ∧ e 0 = .d (.sl (l.map spanC)) ∧ e 1 = i64 top ∧ e 5 = i64 i ∧ s = [] ∧ spOk top (-2) l = spOk top (prevHi l i) (l.drop i) ∧ (0 < i → 0 ≤ prevHi l i ∧ prevHi l i ≤ top))
    ⟨_, _, _, Cln.refl, 0, rfl, by omega, rfl, rfl, rfl, rfl, rfl, fun h => absurd h (by omega)⟩ ?_
  rintro n e s ⟨i, rfl, hi, h0, h1, h5, rfl, hsp, hpv⟩
  rcases Nat.lt_or_ge i l.length with hlt | hge
  · obtain ⟨k, hk⟩ : ∃ k, l[i]? = some k := ⟨_, List.getElem?_eq_getElem hlt⟩
    have hd : l.drop i = k :: l.drop (i + 1) := by
      rw [List.drop_eq_getElem_cons hlt]
      rw [List.getElem?_eq_getElem hlt] at hk
      simp only [Option.some.injEq] at hk
      rw [hk]
    rw [hd] at hsp
    simp only [spOk] at hsp
    have hp1 : prevHi l (i + 1) = k.2 := by simp [prevHi, hk]
    simp only [vsL, vsB, vsC, appendWp, Nat.reduceShiftRight, Nat.reduceMod, Nat.reduceLT, Nat.reduceMul, Nat.reduceSub, Int.reduceToNat, Int.reduceNeg, Int.reduceLT, Int.reduceLE, Int.reduceEq, Nat.reduceEqDiff, Nat.reduceAdd, Nat.reduceLeDiff, reduceIte, reduceCtorEq, Nat.reduceBEq, tysA, i64, h0, h1, h5, hlt]
    refine draw_c mix [] [] (by rfl) ?_
    cases i with
    | zero =>
      have hsp : spOk top (-2) l = (decide (0 ≤ k.1 ∧ k.1 ≤ k.2 ∧ k.2 ≤ top ∧ -2 + 1 < k.1) && spOk top k.2 (l.drop (0 + 1))) := hsp
      simp only [vsL, vsB, vsC, appendWp, Nat.reduceShiftRight, Nat.reduceMod, Nat.reduceLT, Nat.reduceMul, Nat.reduceSub, Int.reduceToNat, Int.reduceNeg, Int.reduceLT, Int.reduceLE, Int.reduceEq, Nat.reduceEqDiff, Nat.reduceAdd, Nat.reduceLeDiff, reduceIte, reduceCtorEq, Nat.reduceBEq, tysA, i64, h0, h1, h5, hk, spanC, iD, Int.natCast_zero]
      repeat' (first
  | (with_reducible refine And.intro (by first | omega | exact ⟨by omega, by omega⟩ | (simp; done)) ?_)
  | (with_reducible refine condS (fun hc => ?_) (fun hc => ?_) <;> simp only [vsL, vsB, vsC, appendWp, Nat.reduceShiftRight, Nat.reduceMod, Nat.reduceLT, Nat.reduceMul, Nat.reduceSub, Int.reduceToNat, Int.reduceNeg, Int.reduceLT, Int.reduceLE, Int.reduceEq, Nat.reduceEqDiff, Nat.reduceAdd, Nat.reduceLeDiff, reduceIte, reduceCtorEq, Nat.reduceBEq, tysA, i64, h0, h1, h5, hk, spanC, iD, Int.natCast_zero, hc])
  | (with_reducible refine guardS_t (fun hc => ?_) (fun hc => ?_) <;> simp only [vsL, vsB, vsC, appendWp, Nat.reduceShiftRight, Nat.reduceMod, Nat.reduceLT, Nat.reduceMul, Nat.reduceSub, Int.reduceToNat, Int.reduceNeg, Int.reduceLT, Int.reduceLE, Int.reduceEq, Nat.reduceEqDiff, Nat.reduceAdd, Nat.reduceLeDiff, reduceIte, reduceCtorEq, Nat.reduceBEq, tysA, i64, h0, h1, h5, hk, spanC, iD, Int.natCast_zero, hc])
  | (with_reducible refine guardS_f (fun hc => ?_) (fun hc => ?_) <;> simp only [vsL, vsB, vsC, appendWp, Nat.reduceShiftRight, Nat.reduceMod, Nat.reduceLT, Nat.reduceMul, Nat.reduceSub, Int.reduceToNat, Int.reduceNeg, Int.reduceLT, Int.reduceLE, Int.reduceEq, Nat.reduceEqDiff, Nat.reduceAdd, Nat.reduceLeDiff, reduceIte, reduceCtorEq, Nat.reduceBEq, tysA, i64, h0, h1, h5, hk, spanC, iD, Int.natCast_zero, hc])
  | (with_reducible refine guardS_nt (fun hc => ?_) (fun hc => ?_) <;> simp only [vsL, vsB, vsC, appendWp, Nat.reduceShiftRight, Nat.reduceMod, Nat.reduceLT, Nat.reduceMul, Nat.reduceSub, Int.reduceToNat, Int.reduceNeg, Int.reduceLT, Int.reduceLE, Int.reduceEq, Nat.reduceEqDiff, Nat.reduceAdd, Nat.reduceLeDiff, reduceIte, reduceCtorEq, Nat.reduceBEq, tysA, i64, h0, h1, h5, hk, spanC, iD, Int.natCast_zero, hc])
  | (with_reducible refine guardS_nf (fun hc => ?_) (fun hc => ?_) <;> simp only [vsL, vsB, vsC, appendWp, Nat.reduceShiftRight, Nat.reduceMod, Nat.reduceLT, Nat.reduceMul, Nat.reduceSub, Int.reduceToNat, Int.reduceNeg, Int.reduceLT, Int.reduceLE, Int.reduceEq, Nat.reduceEqDiff, Nat.reduceAdd, Nat.reduceLeDiff, reduceIte, reduceCtorEq, Nat.reduceBEq, tysA, i64, h0, h1, h5, hk, spanC, iD, Int.natCast_zero, hc])
  | (with_reducible refine condSb (fun hc => ?_) (fun hc => ?_) <;> simp only [vsL, vsB, vsC, appendWp, Nat.reduceShiftRight, Nat.reduceMod, Nat.reduceLT, Nat.reduceMul, Nat.reduceSub, Int.reduceToNat, Int.reduceNeg, Int.reduceLT, Int.reduceLE, Int.reduceEq, Nat.reduceEqDiff, Nat.reduceAdd, Nat.reduceLeDiff, reduceIte, reduceCtorEq, Nat.reduceBEq, tysA, i64, h0, h1, h5, hk, spanC, iD, Int.natCast_zero, hc])
  | (with_reducible refine guardS_b (fun hc => ?_) (fun hc => ?_) <;> simp only [vsL, vsB, vsC, appendWp, Nat.reduceShiftRight, Nat.reduceMod, Nat.reduceLT, Nat.reduceMul, Nat.reduceSub, Int.reduceToNat, Int.reduceNeg, Int.reduceLT, Int.reduceLE, Int.reduceEq, Nat.reduceEqDiff, Nat.reduceAdd, Nat.reduceLeDiff, reduceIte, reduceCtorEq, Nat.reduceBEq, tysA, i64, h0, h1, h5, hk, spanC, iD, Int.natCast_zero, hc]))
      any_goals (refine congrArg bV (Eq.symm ?_); rw [hsp, show decide (0 ≤ k.1 ∧ k.1 ≤ k.2 ∧ k.2 ≤ top ∧ -2 + 1 < k.1) = false from decide_eq_false (by omega)]; rfl)
      refine ⟨l.length - 1, _, _, by omega, Cln.refl, 1, rfl, hlt, ?_, ?_, ?_, rfl, ?_, ?_⟩ <;> (try simp only [keepE_app, List.contains_cons, List.contains_nil, Nat.reduceBEq, Bool.or_false, Bool.false_or, Bool.or_true, Bool.true_or, updE, trimE_upd, trimE_trim, trimE_app, Nat.reduceShiftRight, Nat.reduceMod, Nat.reduceEqDiff, if_true, if_false, reduceIte])
      · exact h0
      · exact h1
      · rw [w64 _ (by omega)]; rfl
      · rw [hsp, hp1, show decide (0 ≤ k.1 ∧ k.1 ≤ k.2 ∧ k.2 ≤ top ∧ -2 + 1 < k.1) = true from decide_eq_true (by omega)]; rfl
      · intro _; rw [hp1]; omega
    | succ j =>
      obtain ⟨kp, hkp⟩ : ∃ k, l[j]? = some k := ⟨_, List.getElem?_eq_getElem (by omega : j < l.length)⟩
      have hpe : prevHi l (j + 1) = kp.2 := by simp [prevHi, hkp]
      have hpv := hpv (by omega)
      rw [hpe] at hpv hsp
      have w1 : IntKind.i64.wrap (((j + 1 : Nat) : Int) - 1) = (j : Int) := by rw [w64 _ (by omega)]; omega
      have w2 : IntKind.i64.wrap (kp.2 + 1) = kp.2 + 1 := w64 _ (by omega)
      have p0 : (0 : Int) < ((j + 1 : Nat) : Int) := by omega
      have q0 : (0 : Int) ≤ ((j + 1 : Nat) : Int) := by omega
      have q1 : ((j + 1 : Nat) : Int) < l.length := by omega
      have q2 : (j : Int) < l.length := by omega
      simp only [vsL, vsB, vsC, appendWp, Nat.reduceShiftRight, Nat.reduceMod, Nat.reduceLT, Nat.reduceMul, Nat.reduceSub, Int.reduceToNat, Int.reduceNeg, Int.reduceLT, Int.reduceLE, Int.reduceEq, Nat.reduceEqDiff, Nat.reduceAdd, Nat.reduceLeDiff, reduceIte, reduceCtorEq, Nat.reduceBEq, tysA, i64, h0, h1, h5, hk, spanC, iD, hkp, w1, w2, p0, q0, q1, q2]
      repeat' (first
  | (with_reducible refine And.intro (by first | omega | exact ⟨by omega, by omega⟩ | (simp; done)) ?_)
  | (with_reducible refine condS (fun hc => ?_) (fun hc => ?_) <;> simp only [vsL, vsB, vsC, appendWp, Nat.reduceShiftRight, Nat.reduceMod, Nat.reduceLT, Nat.reduceMul, Nat.reduceSub, Int.reduceToNat, Int.reduceNeg, Int.reduceLT, Int.reduceLE, Int.reduceEq, Nat.reduceEqDiff, Nat.reduceAdd, Nat.reduceLeDiff, reduceIte, reduceCtorEq, Nat.reduceBEq, tysA, i64, h0, h1, h5, hk, spanC, iD, hkp, w1, w2, p0, q0, q1, q2, hc])
  | (with_reducible refine guardS_t (fun hc => ?_) (fun hc => ?_) <;> simp only [vsL, vsB, vsC, appendWp, Nat.reduceShiftRight, Nat.reduceMod, Nat.reduceLT, Nat.reduceMul, Nat.reduceSub, Int.reduceToNat, Int.reduceNeg, Int.reduceLT, Int.reduceLE, Int.reduceEq, Nat.reduceEqDiff, Nat.reduceAdd, Nat.reduceLeDiff, reduceIte, reduceCtorEq, Nat.reduceBEq, tysA, i64, h0, h1, h5, hk, spanC, iD, hkp, w1, w2, p0, q0, q1, q2, hc])
  | (with_reducible refine guardS_f (fun hc => ?_) (fun hc => ?_) <;> simp only [vsL, vsB, vsC, appendWp, Nat.reduceShiftRight, Nat.reduceMod, Nat.reduceLT, Nat.reduceMul, Nat.reduceSub, Int.reduceToNat, Int.reduceNeg, Int.reduceLT, Int.reduceLE, Int.reduceEq, Nat.reduceEqDiff, Nat.reduceAdd, Nat.reduceLeDiff, reduceIte, reduceCtorEq, Nat.reduceBEq, tysA, i64, h0, h1, h5, hk, spanC, iD, hkp, w1, w2, p0, q0, q1, q2, hc])
  | (with_reducible refine guardS_nt (fun hc => ?_) (fun hc => ?_) <;> simp only [vsL, vsB, vsC, appendWp, Nat.reduceShiftRight, Nat.reduceMod, Nat.reduceLT, Nat.reduceMul, Nat.reduceSub, Int.reduceToNat, Int.reduceNeg, Int.reduceLT, Int.reduceLE, Int.reduceEq, Nat.reduceEqDiff, Nat.reduceAdd, Nat.reduceLeDiff, reduceIte, reduceCtorEq, Nat.reduceBEq, tysA, i64, h0, h1, h5, hk, spanC, iD, hkp, w1, w2, p0, q0, q1, q2, hc])
  | (with_reducible refine guardS_nf (fun hc => ?_) (fun hc => ?_) <;> simp only [vsL, vsB, vsC, appendWp, Nat.reduceShiftRight, Nat.reduceMod, Nat.reduceLT, Nat.reduceMul, Nat.reduceSub, Int.reduceToNat, Int.reduceNeg, Int.reduceLT, Int.reduceLE, Int.reduceEq, Nat.reduceEqDiff, Nat.reduceAdd, Nat.reduceLeDiff, reduceIte, reduceCtorEq, Nat.reduceBEq, tysA, i64, h0, h1, h5, hk, spanC, iD, hkp, w1, w2, p0, q0, q1, q2, hc])
  | (with_reducible refine condSb (fun hc => ?_) (fun hc => ?_) <;> simp only [vsL, vsB, vsC, appendWp, Nat.reduceShiftRight, Nat.reduceMod, Nat.reduceLT, Nat.reduceMul, Nat.reduceSub, Int.reduceToNat, Int.reduceNeg, Int.reduceLT, Int.reduceLE, Int.reduceEq, Nat.reduceEqDiff, Nat.reduceAdd, Nat.reduceLeDiff, reduceIte, reduceCtorEq, Nat.reduceBEq, tysA, i64, h0, h1, h5, hk, spanC, iD, hkp, w1, w2, p0, q0, q1, q2, hc])
  | (with_reducible refine guardS_b (fun hc => ?_) (fun hc => ?_) <;> simp only [vsL, vsB, vsC, appendWp, Nat.reduceShiftRight, Nat.reduceMod, Nat.reduceLT, Nat.reduceMul, Nat.reduceSub, Int.reduceToNat, Int.reduceNeg, Int.reduceLT, Int.reduceLE, Int.reduceEq, Nat.reduceEqDiff, Nat.reduceAdd, Nat.reduceLeDiff, reduceIte, reduceCtorEq, Nat.reduceBEq, tysA, i64, h0, h1, h5, hk, spanC, iD, hkp, w1, w2, p0, q0, q1, q2, hc]))
      any_goals (refine congrArg bV (Eq.symm ?_); rw [hsp, show decide (0 ≤ k.1 ∧ k.1 ≤ k.2 ∧ k.2 ≤ top ∧ kp.2 + 1 < k.1) = false from decide_eq_false (by omega)]; rfl)
      refine ⟨l.length - (j + 1 + 1), _, _, by omega, Cln.refl, j + 1 + 1, rfl, hlt, ?_, ?_, ?_, rfl, ?_, ?_⟩ <;> (try simp only [keepE_app, List.contains_cons, List.contains_nil, Nat.reduceBEq, Bool.or_false, Bool.false_or, Bool.or_true, Bool.true_or, updE, trimE_upd, trimE_trim, trimE_app, Nat.reduceShiftRight, Nat.reduceMod, Nat.reduceEqDiff, if_true, if_false, reduceIte])
      · exact h0
      · exact h1
      · rw [w64 _ (by omega)]; rfl
      · rw [hsp, hp1, show decide (0 ≤ k.1 ∧ k.1 ≤ k.2 ∧ k.2 ≤ top ∧ kp.2 + 1 < k.1) = true from decide_eq_true (by omega)]; rfl
      · intro _; rw [hp1]; omega
  · have hie : i = l.length := by omega
    subst hie
    simp only [vsL, vsB, vsC, appendWp, Nat.reduceShiftRight, Nat.reduceMod, Nat.reduceLT, Nat.reduceMul, Nat.reduceSub, Int.reduceToNat, Int.reduceNeg, Int.reduceLT, Int.reduceLE, Int.reduceEq, Nat.reduceEqDiff, Nat.reduceAdd, Nat.reduceLeDiff, reduceIte, reduceCtorEq, Nat.reduceBEq, tysA, i64, h0, h1, h5, Nat.lt_irrefl]
    rw [hsp]
    simp [spOk, bV]

end Go.Proofs.Ytafbdphblilenaa
