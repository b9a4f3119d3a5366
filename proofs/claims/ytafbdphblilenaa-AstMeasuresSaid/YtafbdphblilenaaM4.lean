/- Part 4 of the proof: the program logic, and what the functions compute (F35 to Vx). -/
import Derived.ProofKit
import Derived.OpenShut
import Derived.Test.YtafbdphblilenaaM3
set_option linter.unusedSimpArgs false
set_option linter.unusedVariables false
set_option linter.unusedSimpArgs false
set_option linter.unusedVariables false
namespace Go.Proofs.Ytafbdphblilenaa
open Go.VL

/-- A node, apart from its kids. -/
def nodeOk (re : Re) (caps top : Int) : Bool :=
  decide (0 ≤ re.op ∧ re.op ≤ 11 ∧ (kidsR re.op).1 ≤ re.kids.length ∧ ((kidsR re.op).2 < 0 ∨ (re.kids.length : Int) ≤ (kidsR re.op).2)) &&
  ((if re.op = 1 then spansR re.set top else decide (re.set.length = 0)) &&
  ((if re.op = 4 then decide (0 ≤ re.mn ∧ re.mn ≤ 32 ∧ -1 ≤ re.mx ∧ re.mx ≠ 0 ∧ re.mx ≤ 32 ∧ (0 < re.mx → re.mn ≤ re.mx) ∧ 0 ≤ re.mode ∧ re.mode ≤ 2) else decide (re.mn = 0 ∧ re.mx = 0 ∧ re.mode = 0)) &&
  ((if re.op = 5 ∨ re.op = 6 ∨ re.op = 10 then decide (1 ≤ re.n ∧ re.n ≤ caps) else if re.op = 11 then decide (0 ≤ re.n ∧ re.n ≤ 5) else decide (re.n = 0)) &&
  (!re.neg || decide (re.op = 7 ∨ re.op = 8)))))

set_option maxRecDepth 100000 in
set_option maxHeartbeats 80000000 in
theorem refFormed_ok (re : Re) (hf : re.fine = true) (caps top : Int) (ht : top ≤ 1114111) : PureOK Try.prog 107 [reV re, i64 caps, i64 top] (bV (nodeOk re caps top)) := by
  obtain ⟨hset1, hlen, hfk⟩ := Re.fine_spec hf
  have hsp := refSpans_ok re.set hset1 top ht
  have hkd := refKids_ok re.op
  by_cases ho : re.op < 0 ∨ 11 < re.op
  · rw [show nodeOk re caps top = false by simp only [nodeOk]; rw [decide_eq_false (by omega)]; rfl]
    have ho2 : re.op < 0 ∨ (¬ re.op < 0 ∧ 11 < re.op) := by omega
    refine fn_ok Try.func107 rfl Try.ntmps107 Try.results107 rfl 0 361550014853497117429835520396253725135 (by simp) (by simp) ?_
    simp only [vsL, vsB, vsC, appendWp, Nat.reduceShiftRight, Nat.reduceMod, Nat.reduceLT, Nat.reduceMul, Nat.reduceSub, Int.reduceToNat, Int.reduceNeg, Int.reduceLT, Int.reduceLE, Int.reduceEq, Nat.reduceEqDiff, Nat.reduceAdd, Nat.reduceLeDiff, reduceIte, reduceCtorEq, Nat.reduceBEq, tysA, i64, reV_eq re, iD, bD]
    refine call_pure hkd (by simp [refsV, refsV.go, reV_eq, i64, bV, reEl]) (by simp [refsV, refsV.go, reV_eq, i64, bV, reEl]) ?_
    rcases ho2 with h1 | ⟨h1, h2⟩
    · simp only [vsL, vsB, vsC, appendWp, Nat.reduceShiftRight, Nat.reduceMod, Nat.reduceLT, Nat.reduceMul, Nat.reduceSub, Int.reduceToNat, Int.reduceNeg, Int.reduceLT, Int.reduceLE, Int.reduceEq, Nat.reduceEqDiff, Nat.reduceAdd, Nat.reduceLeDiff, reduceIte, reduceCtorEq, Nat.reduceBEq, tysA, i64, reV_eq re, iD, bD, h1]
      rfl
    · simp only [vsL, vsB, vsC, appendWp, Nat.reduceShiftRight, Nat.reduceMod, Nat.reduceLT, Nat.reduceMul, Nat.reduceSub, Int.reduceToNat, Int.reduceNeg, Int.reduceLT, Int.reduceLE, Int.reduceEq, Nat.reduceEqDiff, Nat.reduceAdd, Nat.reduceLeDiff, reduceIte, reduceCtorEq, Nat.reduceBEq, tysA, i64, reV_eq re, iD, bD, h1, h2]
      rfl
  · have hc : re.op = 0 ∨ re.op = 1 ∨ re.op = 2 ∨ re.op = 3 ∨ re.op = 4 ∨ re.op = 5 ∨ re.op = 6 ∨ re.op = 7 ∨ re.op = 8 ∨ re.op = 9 ∨ re.op = 10 ∨ re.op = 11 := by omega
    clear ho
    rcases hc with p | p | p | p | p | p | p | p | p | p | p | p
    case inr.inl =>
      rw [p] at hkd
      simp only [kidsR, Int.reduceEq, or_self, if_false, or_true, true_or, or_false, false_or, if_true, reduceIte] at hkd
      generalize hv : spansR re.set top = sv at hsp
      cases sv
      all_goals
        refine fn_ok Try.func107 rfl Try.ntmps107 Try.results107 rfl 0 361550014853497117429835520396253725135 (by simp) (by simp) ?_
        simp only [vsL, vsB, vsC, appendWp, Nat.reduceShiftRight, Nat.reduceMod, Nat.reduceLT, Nat.reduceMul, Nat.reduceSub, Int.reduceToNat, Int.reduceNeg, Int.reduceLT, Int.reduceLE, Int.reduceEq, Nat.reduceEqDiff, Nat.reduceAdd, Nat.reduceLeDiff, reduceIte, reduceCtorEq, Nat.reduceBEq, tysA, i64, reV_eq re, iD, bD, p]
        refine call_pure hkd (by simp [refsV, refsV.go, reV_eq, i64, bV, reEl]) (by simp [refsV, refsV.go, reV_eq, i64, bV, reEl]) ?_
        simp only [vsL, vsB, vsC, appendWp, Nat.reduceShiftRight, Nat.reduceMod, Nat.reduceLT, Nat.reduceMul, Nat.reduceSub, Int.reduceToNat, Int.reduceNeg, Int.reduceLT, Int.reduceLE, Int.reduceEq, Nat.reduceEqDiff, Nat.reduceAdd, Nat.reduceLeDiff, reduceIte, reduceCtorEq, Nat.reduceBEq, tysA, i64, reV_eq re, iD, bD, p]
        repeat' (first
  | (with_reducible refine And.intro (by first | omega | exact ⟨by omega, by omega⟩ | (simp; done)) ?_)
  | (with_reducible refine condS (fun hc => ?_) (fun hc => ?_) <;> simp only [vsL, vsB, vsC, appendWp, Nat.reduceShiftRight, Nat.reduceMod, Nat.reduceLT, Nat.reduceMul, Nat.reduceSub, Int.reduceToNat, Int.reduceNeg, Int.reduceLT, Int.reduceLE, Int.reduceEq, Nat.reduceEqDiff, Nat.reduceAdd, Nat.reduceLeDiff, reduceIte, reduceCtorEq, Nat.reduceBEq, tysA, i64, reV_eq re, iD, bD, p, hc])
  | (with_reducible refine guardS_t (fun hc => ?_) (fun hc => ?_) <;> simp only [vsL, vsB, vsC, appendWp, Nat.reduceShiftRight, Nat.reduceMod, Nat.reduceLT, Nat.reduceMul, Nat.reduceSub, Int.reduceToNat, Int.reduceNeg, Int.reduceLT, Int.reduceLE, Int.reduceEq, Nat.reduceEqDiff, Nat.reduceAdd, Nat.reduceLeDiff, reduceIte, reduceCtorEq, Nat.reduceBEq, tysA, i64, reV_eq re, iD, bD, p, hc])
  | (with_reducible refine guardS_f (fun hc => ?_) (fun hc => ?_) <;> simp only [vsL, vsB, vsC, appendWp, Nat.reduceShiftRight, Nat.reduceMod, Nat.reduceLT, Nat.reduceMul, Nat.reduceSub, Int.reduceToNat, Int.reduceNeg, Int.reduceLT, Int.reduceLE, Int.reduceEq, Nat.reduceEqDiff, Nat.reduceAdd, Nat.reduceLeDiff, reduceIte, reduceCtorEq, Nat.reduceBEq, tysA, i64, reV_eq re, iD, bD, p, hc])
  | (with_reducible refine guardS_nt (fun hc => ?_) (fun hc => ?_) <;> simp only [vsL, vsB, vsC, appendWp, Nat.reduceShiftRight, Nat.reduceMod, Nat.reduceLT, Nat.reduceMul, Nat.reduceSub, Int.reduceToNat, Int.reduceNeg, Int.reduceLT, Int.reduceLE, Int.reduceEq, Nat.reduceEqDiff, Nat.reduceAdd, Nat.reduceLeDiff, reduceIte, reduceCtorEq, Nat.reduceBEq, tysA, i64, reV_eq re, iD, bD, p, hc])
  | (with_reducible refine guardS_nf (fun hc => ?_) (fun hc => ?_) <;> simp only [vsL, vsB, vsC, appendWp, Nat.reduceShiftRight, Nat.reduceMod, Nat.reduceLT, Nat.reduceMul, Nat.reduceSub, Int.reduceToNat, Int.reduceNeg, Int.reduceLT, Int.reduceLE, Int.reduceEq, Nat.reduceEqDiff, Nat.reduceAdd, Nat.reduceLeDiff, reduceIte, reduceCtorEq, Nat.reduceBEq, tysA, i64, reV_eq re, iD, bD, p, hc])
  | (with_reducible refine condSb (fun hc => ?_) (fun hc => ?_) <;> simp only [vsL, vsB, vsC, appendWp, Nat.reduceShiftRight, Nat.reduceMod, Nat.reduceLT, Nat.reduceMul, Nat.reduceSub, Int.reduceToNat, Int.reduceNeg, Int.reduceLT, Int.reduceLE, Int.reduceEq, Nat.reduceEqDiff, Nat.reduceAdd, Nat.reduceLeDiff, reduceIte, reduceCtorEq, Nat.reduceBEq, tysA, i64, reV_eq re, iD, bD, p, hc])
  | (with_reducible refine guardS_b (fun hc => ?_) (fun hc => ?_) <;> simp only [vsL, vsB, vsC, appendWp, Nat.reduceShiftRight, Nat.reduceMod, Nat.reduceLT, Nat.reduceMul, Nat.reduceSub, Int.reduceToNat, Int.reduceNeg, Int.reduceLT, Int.reduceLE, Int.reduceEq, Nat.reduceEqDiff, Nat.reduceAdd, Nat.reduceLeDiff, reduceIte, reduceCtorEq, Nat.reduceBEq, tysA, i64, reV_eq re, iD, bD, p, hc]))
      any_goals
        refine call_pure hsp (by simp [refsV, refsV.go, reV_eq, i64, bV, reEl]) (by simp [refsV, refsV.go, reV_eq, i64, bV, reEl]) ?_
        simp only [vsL, vsB, vsC, appendWp, Nat.reduceShiftRight, Nat.reduceMod, Nat.reduceLT, Nat.reduceMul, Nat.reduceSub, Int.reduceToNat, Int.reduceNeg, Int.reduceLT, Int.reduceLE, Int.reduceEq, Nat.reduceEqDiff, Nat.reduceAdd, Nat.reduceLeDiff, reduceIte, reduceCtorEq, Nat.reduceBEq, tysA, i64, reV_eq re, iD, bD, p, bV]
      any_goals
        repeat' (first
  | (with_reducible refine And.intro (by first | omega | exact ⟨by omega, by omega⟩ | (simp; done)) ?_)
  | (with_reducible refine condS (fun hc => ?_) (fun hc => ?_) <;> simp only [vsL, vsB, vsC, appendWp, Nat.reduceShiftRight, Nat.reduceMod, Nat.reduceLT, Nat.reduceMul, Nat.reduceSub, Int.reduceToNat, Int.reduceNeg, Int.reduceLT, Int.reduceLE, Int.reduceEq, Nat.reduceEqDiff, Nat.reduceAdd, Nat.reduceLeDiff, reduceIte, reduceCtorEq, Nat.reduceBEq, tysA, i64, reV_eq re, iD, bD, p, bV, hc])
  | (with_reducible refine guardS_t (fun hc => ?_) (fun hc => ?_) <;> simp only [vsL, vsB, vsC, appendWp, Nat.reduceShiftRight, Nat.reduceMod, Nat.reduceLT, Nat.reduceMul, Nat.reduceSub, Int.reduceToNat, Int.reduceNeg, Int.reduceLT, Int.reduceLE, Int.reduceEq, Nat.reduceEqDiff, Nat.reduceAdd, Nat.reduceLeDiff, reduceIte, reduceCtorEq, Nat.reduceBEq, tysA, i64, reV_eq re, iD, bD, p, bV, hc])
  | (with_reducible refine guardS_f (fun hc => ?_) (fun hc => ?_) <;> simp only [vsL, vsB, vsC, appendWp, Nat.reduceShiftRight, Nat.reduceMod, Nat.reduceLT, Nat.reduceMul, Nat.reduceSub, Int.reduceToNat, Int.reduceNeg, Int.reduceLT, Int.reduceLE, Int.reduceEq, Nat.reduceEqDiff, Nat.reduceAdd, Nat.reduceLeDiff, reduceIte, reduceCtorEq, Nat.reduceBEq, tysA, i64, reV_eq re, iD, bD, p, bV, hc])
  | (with_reducible refine guardS_nt (fun hc => ?_) (fun hc => ?_) <;> simp only [vsL, vsB, vsC, appendWp, Nat.reduceShiftRight, Nat.reduceMod, Nat.reduceLT, Nat.reduceMul, Nat.reduceSub, Int.reduceToNat, Int.reduceNeg, Int.reduceLT, Int.reduceLE, Int.reduceEq, Nat.reduceEqDiff, Nat.reduceAdd, Nat.reduceLeDiff, reduceIte, reduceCtorEq, Nat.reduceBEq, tysA, i64, reV_eq re, iD, bD, p, bV, hc])
  | (with_reducible refine guardS_nf (fun hc => ?_) (fun hc => ?_) <;> simp only [vsL, vsB, vsC, appendWp, Nat.reduceShiftRight, Nat.reduceMod, Nat.reduceLT, Nat.reduceMul, Nat.reduceSub, Int.reduceToNat, Int.reduceNeg, Int.reduceLT, Int.reduceLE, Int.reduceEq, Nat.reduceEqDiff, Nat.reduceAdd, Nat.reduceLeDiff, reduceIte, reduceCtorEq, Nat.reduceBEq, tysA, i64, reV_eq re, iD, bD, p, bV, hc])
  | (with_reducible refine condSb (fun hc => ?_) (fun hc => ?_) <;> simp only [vsL, vsB, vsC, appendWp, Nat.reduceShiftRight, Nat.reduceMod, Nat.reduceLT, Nat.reduceMul, Nat.reduceSub, Int.reduceToNat, Int.reduceNeg, Int.reduceLT, Int.reduceLE, Int.reduceEq, Nat.reduceEqDiff, Nat.reduceAdd, Nat.reduceLeDiff, reduceIte, reduceCtorEq, Nat.reduceBEq, tysA, i64, reV_eq re, iD, bD, p, bV, hc])
  | (with_reducible refine guardS_b (fun hc => ?_) (fun hc => ?_) <;> simp only [vsL, vsB, vsC, appendWp, Nat.reduceShiftRight, Nat.reduceMod, Nat.reduceLT, Nat.reduceMul, Nat.reduceSub, Int.reduceToNat, Int.reduceNeg, Int.reduceLT, Int.reduceLE, Int.reduceEq, Nat.reduceEqDiff, Nat.reduceAdd, Nat.reduceLeDiff, reduceIte, reduceCtorEq, Nat.reduceBEq, tysA, i64, reV_eq re, iD, bD, p, bV, hc]))
      all_goals
        rcases Bool.eq_false_or_eq_true re.neg with hneg | hneg
        all_goals
          try (exfalso; rw [hneg] at hc; exact absurd hc (by decide); done)
          try first
            | (first | refine congrArg bV (Eq.symm (Bool.eq_false_iff.2 fun h => ?_)) | refine Eq.symm (Bool.eq_false_iff.2 fun h => ?_)
               simp only [nodeOk, kidsR, p, hneg, hv, Int.reduceEq, or_self, if_false, or_true, true_or, or_false, false_or, if_true, reduceIte, Bool.and_eq_true, decide_eq_true_eq, Bool.not_true, Bool.not_false, Bool.true_or, Bool.false_or, reduceCtorEq, Bool.false_eq_true, false_and, and_false, true_and, and_true] at h
               try omega
               done)
            | (first | refine congrArg bV (Eq.symm ?_) | refine Eq.symm ?_
               simp only [nodeOk, kidsR, p, hneg, hv, Int.reduceEq, or_self, if_false, or_true, true_or, or_false, false_or, if_true, reduceIte, Bool.and_eq_true, decide_eq_true_eq, Bool.not_true, Bool.not_false, Bool.true_or, Bool.false_or, reduceCtorEq, Bool.false_eq_true, false_and, and_false, true_and, and_true]
               try omega
               done)
    all_goals
      rw [p] at hkd
      simp only [kidsR, Int.reduceEq, or_self, if_false, or_true, true_or, or_false, false_or, if_true, reduceIte] at hkd
      refine fn_ok Try.func107 rfl Try.ntmps107 Try.results107 rfl 0 361550014853497117429835520396253725135 (by simp) (by simp) ?_
      simp only [vsL, vsB, vsC, appendWp, Nat.reduceShiftRight, Nat.reduceMod, Nat.reduceLT, Nat.reduceMul, Nat.reduceSub, Int.reduceToNat, Int.reduceNeg, Int.reduceLT, Int.reduceLE, Int.reduceEq, Nat.reduceEqDiff, Nat.reduceAdd, Nat.reduceLeDiff, reduceIte, reduceCtorEq, Nat.reduceBEq, tysA, i64, reV_eq re, iD, bD, p]
      refine call_pure hkd (by simp [refsV, refsV.go, reV_eq, i64, bV, reEl]) (by simp [refsV, refsV.go, reV_eq, i64, bV, reEl]) ?_
      simp only [vsL, vsB, vsC, appendWp, Nat.reduceShiftRight, Nat.reduceMod, Nat.reduceLT, Nat.reduceMul, Nat.reduceSub, Int.reduceToNat, Int.reduceNeg, Int.reduceLT, Int.reduceLE, Int.reduceEq, Nat.reduceEqDiff, Nat.reduceAdd, Nat.reduceLeDiff, reduceIte, reduceCtorEq, Nat.reduceBEq, tysA, i64, reV_eq re, iD, bD, p]
      repeat' (first
  | (with_reducible refine And.intro (by first | omega | exact ⟨by omega, by omega⟩ | (simp; done)) ?_)
  | (with_reducible refine condS (fun hc => ?_) (fun hc => ?_) <;> simp only [vsL, vsB, vsC, appendWp, Nat.reduceShiftRight, Nat.reduceMod, Nat.reduceLT, Nat.reduceMul, Nat.reduceSub, Int.reduceToNat, Int.reduceNeg, Int.reduceLT, Int.reduceLE, Int.reduceEq, Nat.reduceEqDiff, Nat.reduceAdd, Nat.reduceLeDiff, reduceIte, reduceCtorEq, Nat.reduceBEq, tysA, i64, reV_eq re, iD, bD, p, hc])
  | (with_reducible refine guardS_t (fun hc => ?_) (fun hc => ?_) <;> simp only [vsL, vsB, vsC, appendWp, Nat.reduceShiftRight, Nat.reduceMod, Nat.reduceLT, Nat.reduceMul, Nat.reduceSub, Int.reduceToNat, Int.reduceNeg, Int.reduceLT, Int.reduceLE, Int.reduceEq, Nat.reduceEqDiff, Nat.reduceAdd, Nat.reduceLeDiff, reduceIte, reduceCtorEq, Nat.reduceBEq, tysA, i64, reV_eq re, iD, bD, p, hc])
  | (with_reducible refine guardS_f (fun hc => ?_) (fun hc => ?_) <;> simp only [vsL, vsB, vsC, appendWp, Nat.reduceShiftRight, Nat.reduceMod, Nat.reduceLT, Nat.reduceMul, Nat.reduceSub, Int.reduceToNat, Int.reduceNeg, Int.reduceLT, Int.reduceLE, Int.reduceEq, Nat.reduceEqDiff, Nat.reduceAdd, Nat.reduceLeDiff, reduceIte, reduceCtorEq, Nat.reduceBEq, tysA, i64, reV_eq re, iD, bD, p, hc])
  | (with_reducible refine guardS_nt (fun hc => ?_) (fun hc => ?_) <;> simp only [vsL, vsB, vsC, appendWp, Nat.reduceShiftRight, Nat.reduceMod, Nat.reduceLT, Nat.reduceMul, Nat.reduceSub, Int.reduceToNat, Int.reduceNeg, Int.reduceLT, Int.reduceLE, Int.reduceEq, Nat.reduceEqDiff, Nat.reduceAdd, Nat.reduceLeDiff, reduceIte, reduceCtorEq, Nat.reduceBEq, tysA, i64, reV_eq re, iD, bD, p, hc])
  | (with_reducible refine guardS_nf (fun hc => ?_) (fun hc => ?_) <;> simp only [vsL, vsB, vsC, appendWp, Nat.reduceShiftRight, Nat.reduceMod, Nat.reduceLT, Nat.reduceMul, Nat.reduceSub, Int.reduceToNat, Int.reduceNeg, Int.reduceLT, Int.reduceLE, Int.reduceEq, Nat.reduceEqDiff, Nat.reduceAdd, Nat.reduceLeDiff, reduceIte, reduceCtorEq, Nat.reduceBEq, tysA, i64, reV_eq re, iD, bD, p, hc])
  | (with_reducible refine condSb (fun hc => ?_) (fun hc => ?_) <;> simp only [vsL, vsB, vsC, appendWp, Nat.reduceShiftRight, Nat.reduceMod, Nat.reduceLT, Nat.reduceMul, Nat.reduceSub, Int.reduceToNat, Int.reduceNeg, Int.reduceLT, Int.reduceLE, Int.reduceEq, Nat.reduceEqDiff, Nat.reduceAdd, Nat.reduceLeDiff, reduceIte, reduceCtorEq, Nat.reduceBEq, tysA, i64, reV_eq re, iD, bD, p, hc])
  | (with_reducible refine guardS_b (fun hc => ?_) (fun hc => ?_) <;> simp only [vsL, vsB, vsC, appendWp, Nat.reduceShiftRight, Nat.reduceMod, Nat.reduceLT, Nat.reduceMul, Nat.reduceSub, Int.reduceToNat, Int.reduceNeg, Int.reduceLT, Int.reduceLE, Int.reduceEq, Nat.reduceEqDiff, Nat.reduceAdd, Nat.reduceLeDiff, reduceIte, reduceCtorEq, Nat.reduceBEq, tysA, i64, reV_eq re, iD, bD, p, hc]))
    all_goals
      rcases Bool.eq_false_or_eq_true re.neg with hneg | hneg
      all_goals
        try (exfalso; rw [hneg] at hc; exact absurd hc (by decide); done)
        try first
          | (refine congrArg bV (Eq.symm (Bool.eq_false_iff.2 fun h => ?_))
             simp only [nodeOk, kidsR, p, hneg, Int.reduceEq, or_self, if_false, or_true, true_or, or_false, false_or, if_true, reduceIte, Bool.and_eq_true, decide_eq_true_eq, Bool.not_true, Bool.not_false, Bool.true_or, Bool.false_or, reduceCtorEq, Bool.false_eq_true, false_and, and_false, true_and, and_true] at h
             try omega
             done)
          | (refine congrArg bV (Eq.symm ?_)
             simp only [nodeOk, kidsR, p, hneg, Int.reduceEq, or_self, if_false, or_true, true_or, or_false, false_or, if_true, reduceIte, Bool.and_eq_true, decide_eq_true_eq, Bool.not_true, Bool.not_false, Bool.true_or, Bool.false_or, reduceCtorEq, Bool.false_eq_true, false_and, and_false, true_and, and_true]
             try omega
             done)

end Go.Proofs.Ytafbdphblilenaa

set_option linter.unusedSimpArgs false
set_option linter.unusedVariables false
namespace Go.Proofs.Ytafbdphblilenaa
open Go.VL

/-! ### The reference's Valid: all nodes -/

def Re.whole (re : Re) (caps top : Int) : Bool := re.every fun r => nodeOk r caps top

set_option maxRecDepth 100000 in
set_option maxHeartbeats 8000000 in
theorem refWhole_ok (caps top : Int) (ht : top ≤ 1114111) (re : Re) (hf : re.fine = true) : PureOK Try.prog 69 [reV re, i64 caps, i64 top] (bV (re.whole caps top)) := by
  revert hf
  refine Re.ind (Q := fun re => re.fine = true → PureOK Try.prog 69 [reV re, i64 caps, i64 top] (bV (re.whole caps top))) (fun re ih hf => ?_) re
  obtain ⟨hset1, hlen, hfk⟩ := Re.fine_spec hf
  have hfo := refFormed_ok re hf caps top ht
  rw [reV_eq] at hfo
  simp only [i64, iD, bD] at hfo
  refine fn_ok Try.func69 rfl Try.ntmps69 Try.results69 rfl 0 207 (by simp) (by simp) ?_
  simp only [vsL, vsB, vsC, appendWp, Nat.reduceShiftRight, Nat.reduceMod, Nat.reduceLT, Nat.reduceMul, Nat.reduceSub, Int.reduceToNat, Int.reduceNeg, Int.reduceLT, Int.reduceLE, Int.reduceEq, Nat.reduceEqDiff, Nat.reduceAdd, Nat.reduceLeDiff, reduceIte, reduceCtorEq, Nat.reduceBEq, tysA, i64, reV_eq re, iD, bD]
  refine call_pure hfo (by simp [refsV, refsV.go, reV_eq, i64, bV, reEl]) (by simp [refsV, refsV.go, reV_eq, i64, bV, reEl]) ?_
  cases hno : nodeOk re caps top with
  | false =>
    simp only [vsL, vsB, vsC, appendWp, Nat.reduceShiftRight, Nat.reduceMod, Nat.reduceLT, Nat.reduceMul, Nat.reduceSub, Int.reduceToNat, Int.reduceNeg, Int.reduceLT, Int.reduceLE, Int.reduceEq, Nat.reduceEqDiff, Nat.reduceAdd, Nat.reduceLeDiff, reduceIte, reduceCtorEq, Nat.reduceBEq, tysA, i64, bV]
    rw [show re.whole caps top = false by
      rw [Bool.eq_false_iff]; intro h; unfold Re.whole at h; rw [Re.every_iff, hno] at h; exact absurd h.1 (by decide)]
  | true =>
    simp only [vsL, vsB, vsC, appendWp, Nat.reduceShiftRight, Nat.reduceMod, Nat.reduceLT, Nat.reduceMul, Nat.reduceSub, Int.reduceToNat, Int.reduceNeg, Int.reduceLT, Int.reduceLE, Int.reduceEq, Nat.reduceEqDiff, Nat.reduceAdd, Nat.reduceLeDiff, reduceIte, reduceCtorEq, Nat.reduceBEq, tysA, i64, bV]
    refine loop_rule (fun n e s => ∃ i : Nat, n = re.kids.length - i ∧ i ≤ re.kids.length ∧ e 1 = i64 caps ∧ e 2 = i64 top ∧ e 3 = .rf 0 0 0 0 ∧ e 7 = i64 i ∧ (∀ x ∈ re.kids.take i, x.whole caps top = true) ∧ s = [⟨0, true, 8, [re.cells.map .d]⟩])
      ⟨_, _, _, Cln.refl, 0, rfl, by omega, rfl, rfl, rfl, rfl, by simp, by simp [Re.cells_eq re, iD, bD]⟩ ?_
    rintro n e s ⟨i, rfl, hi, h1, h2, h3, h7, hn, rfl⟩
    rcases Nat.lt_or_ge i re.kids.length with hlt | hge
    · obtain ⟨k, hk⟩ : ∃ k, re.kids[i]? = some k := ⟨_, List.getElem?_eq_getElem hlt⟩
      have hm := List.mem_of_getElem? hk
      simp only [vsL, vsB, vsC, appendWp, Nat.reduceShiftRight, Nat.reduceMod, Nat.reduceLT, Nat.reduceMul, Nat.reduceSub, Int.reduceToNat, Int.reduceNeg, Int.reduceLT, Int.reduceLE, Int.reduceEq, Nat.reduceEqDiff, Nat.reduceAdd, Nat.reduceLeDiff, reduceIte, reduceCtorEq, Nat.reduceBEq, tysA, i64, Re.cells_eq re, iD, bD, h1, h2, h3, h7, hlt, hk]
      refine call_pure (ih k hm (hfk k hm)) (by simp [refsV, refsV.go, reV_eq, i64, bV, reEl]) (by simp [refsV, refsV.go, reV_eq, i64, bV, reEl]) ?_
      cases hkn : k.whole caps top with
      | false =>
        simp only [vsL, vsB, vsC, appendWp, Nat.reduceShiftRight, Nat.reduceMod, Nat.reduceLT, Nat.reduceMul, Nat.reduceSub, Int.reduceToNat, Int.reduceNeg, Int.reduceLT, Int.reduceLE, Int.reduceEq, Nat.reduceEqDiff, Nat.reduceAdd, Nat.reduceLeDiff, reduceIte, reduceCtorEq, Nat.reduceBEq, tysA, i64, bV]
        rw [show re.whole caps top = false by
          rw [Bool.eq_false_iff]; intro h; unfold Re.whole at h; rw [Re.every_iff] at h; have := h.2 k hm; unfold Re.whole at hkn; rw [hkn] at this; cases this]
      | true =>
        simp only [vsL, vsB, vsC, appendWp, Nat.reduceShiftRight, Nat.reduceMod, Nat.reduceLT, Nat.reduceMul, Nat.reduceSub, Int.reduceToNat, Int.reduceNeg, Int.reduceLT, Int.reduceLE, Int.reduceEq, Nat.reduceEqDiff, Nat.reduceAdd, Nat.reduceLeDiff, reduceIte, reduceCtorEq, Nat.reduceBEq, tysA, i64, bV, Re.cells_eq re, iD, bD, h1, h2, h3, h7]
        refine ⟨re.kids.length - (i + 1), _, _, by omega, Cln.refl, i + 1, rfl, hlt, ?_, ?_, ?_, ?_, ?_, rfl⟩ <;> (try simp only [keepE_app, List.contains_cons, List.contains_nil, Nat.reduceBEq, Bool.or_false, Bool.false_or, Bool.or_true, Bool.true_or, updE, trimE_upd, trimE_trim, trimE_app, Nat.reduceShiftRight, Nat.reduceMod, Nat.reduceEqDiff, if_true, if_false, reduceIte])
        · exact h1
        · exact h2
        · exact h3
        · rw [w64 _ (by omega)]; rfl
        · intro x hx
          rcases mem_take_succ hk hx with h | rfl
          · exact hn x h
          · exact hkn
    · have hie : i = re.kids.length := by omega
      subst hie
      simp only [vsL, vsB, vsC, appendWp, Nat.reduceShiftRight, Nat.reduceMod, Nat.reduceLT, Nat.reduceMul, Nat.reduceSub, Int.reduceToNat, Int.reduceNeg, Int.reduceLT, Int.reduceLE, Int.reduceEq, Nat.reduceEqDiff, Nat.reduceAdd, Nat.reduceLeDiff, reduceIte, reduceCtorEq, Nat.reduceBEq, tysA, i64, Re.cells_eq re, iD, bD, h1, h2, h3, h7, Nat.lt_irrefl]
      rw [show re.whole caps top = true from (Re.every_iff re).2 ⟨hno, fun k hk => hn k (by rw [List.take_length]; exact hk)⟩]

def topR (runes : Bool) : Int := if runes = true then 1114111 else 255

def validR (p : Pat) : Int :=
  if 256 < p.re.size ∨ 24 < p.re.depth then 4 else if p.caps < 0 ∨ 9 < p.caps ∨ p.re.whole p.caps (topR p.runes) = false then 1 else 0

set_option maxRecDepth 100000 in
set_option maxHeartbeats 8000000 in
theorem refValid_ok (p : Pat) (hf : p.re.fine = true) (hs : p.re.size ≤ 1000000000) : PureOK Try.prog 28 [patV p] (i64 (validR p)) := by
  have h1 := refSize_ok p.re hs
  have h2 := refDepth_ok p.re hs
  have h3 := refWhole_ok p.caps (topR p.runes) (by unfold topR; split <;> omega) p.re hf
  unfold validR
  rw [reV_eq] at h1 h2 h3
  cases p with
  | mk re caps runes =>
  simp only [i64, iD, bD] at h1 h2 h3
  simp only at *
  refine fn_ok Try.func28 rfl Try.ntmps28 Try.results28 rfl 0 15 (by simp) (by simp) ?_
  simp only [vsL, vsB, vsC, appendWp, Nat.reduceShiftRight, Nat.reduceMod, Nat.reduceLT, Nat.reduceMul, Nat.reduceSub, Int.reduceToNat, Int.reduceNeg, Int.reduceLT, Int.reduceLE, Int.reduceEq, Nat.reduceEqDiff, Nat.reduceAdd, Nat.reduceLeDiff, reduceIte, reduceCtorEq, Nat.reduceBEq, tysA, i64, patV, Re.cells_eq re, bV, iD, bD]
  refine call_pure h1 (by simp [refsV, refsV.go, reV_eq, i64, bV, reEl]) (by simp [refsV, refsV.go, reV_eq, i64, bV, reEl]) ?_
  simp only [vsL, vsB, vsC, appendWp, Nat.reduceShiftRight, Nat.reduceMod, Nat.reduceLT, Nat.reduceMul, Nat.reduceSub, Int.reduceToNat, Int.reduceNeg, Int.reduceLT, Int.reduceLE, Int.reduceEq, Nat.reduceEqDiff, Nat.reduceAdd, Nat.reduceLeDiff, reduceIte, reduceCtorEq, Nat.reduceBEq, tysA, i64, patV, bV, iD, bD]
  by_cases c1 : (256 : Int) < re.size
  · simp only [vsL, vsB, vsC, appendWp, Nat.reduceShiftRight, Nat.reduceMod, Nat.reduceLT, Nat.reduceMul, Nat.reduceSub, Int.reduceToNat, Int.reduceNeg, Int.reduceLT, Int.reduceLE, Int.reduceEq, Nat.reduceEqDiff, Nat.reduceAdd, Nat.reduceLeDiff, reduceIte, reduceCtorEq, Nat.reduceBEq, tysA, c1]
    rw [if_pos (by omega)]
  simp only [vsL, vsB, vsC, appendWp, Nat.reduceShiftRight, Nat.reduceMod, Nat.reduceLT, Nat.reduceMul, Nat.reduceSub, Int.reduceToNat, Int.reduceNeg, Int.reduceLT, Int.reduceLE, Int.reduceEq, Nat.reduceEqDiff, Nat.reduceAdd, Nat.reduceLeDiff, reduceIte, reduceCtorEq, Nat.reduceBEq, tysA, i64, patV, bV, iD, bD, c1]
  refine call_pure h2 (by simp [refsV, refsV.go, reV_eq, i64, bV, reEl]) (by simp [refsV, refsV.go, reV_eq, i64, bV, reEl]) ?_
  simp only [vsL, vsB, vsC, appendWp, Nat.reduceShiftRight, Nat.reduceMod, Nat.reduceLT, Nat.reduceMul, Nat.reduceSub, Int.reduceToNat, Int.reduceNeg, Int.reduceLT, Int.reduceLE, Int.reduceEq, Nat.reduceEqDiff, Nat.reduceAdd, Nat.reduceLeDiff, reduceIte, reduceCtorEq, Nat.reduceBEq, tysA, i64, patV, bV, iD, bD]
  by_cases c2 : (24 : Int) < re.depth
  · simp only [vsL, vsB, vsC, appendWp, Nat.reduceShiftRight, Nat.reduceMod, Nat.reduceLT, Nat.reduceMul, Nat.reduceSub, Int.reduceToNat, Int.reduceNeg, Int.reduceLT, Int.reduceLE, Int.reduceEq, Nat.reduceEqDiff, Nat.reduceAdd, Nat.reduceLeDiff, reduceIte, reduceCtorEq, Nat.reduceBEq, tysA, c2]
  rw [if_neg (by omega)]
  simp only [vsL, vsB, vsC, appendWp, Nat.reduceShiftRight, Nat.reduceMod, Nat.reduceLT, Nat.reduceMul, Nat.reduceSub, Int.reduceToNat, Int.reduceNeg, Int.reduceLT, Int.reduceLE, Int.reduceEq, Nat.reduceEqDiff, Nat.reduceAdd, Nat.reduceLeDiff, reduceIte, reduceCtorEq, Nat.reduceBEq, tysA, i64, patV, bV, iD, bD, c2]
  cases runes
  all_goals
    simp only [topR, if_true, if_false, reduceIte, reduceCtorEq, Bool.false_eq_true] at h3 ⊢
    simp only [vsL, vsB, vsC, appendWp, Nat.reduceShiftRight, Nat.reduceMod, Nat.reduceLT, Nat.reduceMul, Nat.reduceSub, Int.reduceToNat, Int.reduceNeg, Int.reduceLT, Int.reduceLE, Int.reduceEq, Nat.reduceEqDiff, Nat.reduceAdd, Nat.reduceLeDiff, reduceIte, reduceCtorEq, Nat.reduceBEq, tysA, i64, patV, bV, iD, bD]
    by_cases c3 : caps < 0
    · simp only [vsL, vsB, vsC, appendWp, Nat.reduceShiftRight, Nat.reduceMod, Nat.reduceLT, Nat.reduceMul, Nat.reduceSub, Int.reduceToNat, Int.reduceNeg, Int.reduceLT, Int.reduceLE, Int.reduceEq, Nat.reduceEqDiff, Nat.reduceAdd, Nat.reduceLeDiff, reduceIte, reduceCtorEq, Nat.reduceBEq, tysA, i64, patV, bV, iD, bD, c3]
    by_cases c4 : 9 < caps
    · simp only [vsL, vsB, vsC, appendWp, Nat.reduceShiftRight, Nat.reduceMod, Nat.reduceLT, Nat.reduceMul, Nat.reduceSub, Int.reduceToNat, Int.reduceNeg, Int.reduceLT, Int.reduceLE, Int.reduceEq, Nat.reduceEqDiff, Nat.reduceAdd, Nat.reduceLeDiff, reduceIte, reduceCtorEq, Nat.reduceBEq, tysA, i64, patV, bV, iD, bD, c3, c4, if_true, or_true, true_or]
    simp only [vsL, vsB, vsC, appendWp, Nat.reduceShiftRight, Nat.reduceMod, Nat.reduceLT, Nat.reduceMul, Nat.reduceSub, Int.reduceToNat, Int.reduceNeg, Int.reduceLT, Int.reduceLE, Int.reduceEq, Nat.reduceEqDiff, Nat.reduceAdd, Nat.reduceLeDiff, reduceIte, reduceCtorEq, Nat.reduceBEq, tysA, i64, patV, bV, iD, bD, c3, c4]
    refine call_pure h3 (by simp [refsV, refsV.go, reV_eq, i64, bV, reEl]) (by simp [refsV, refsV.go, reV_eq, i64, bV, reEl]) ?_
    first
      | (cases hw : re.whole caps 1114111 <;> (simp only [vsL, vsB, vsC, appendWp, Nat.reduceShiftRight, Nat.reduceMod, Nat.reduceLT, Nat.reduceMul, Nat.reduceSub, Int.reduceToNat, Int.reduceNeg, Int.reduceLT, Int.reduceLE, Int.reduceEq, Nat.reduceEqDiff, Nat.reduceAdd, Nat.reduceLeDiff, reduceIte, reduceCtorEq, Nat.reduceBEq, tysA, i64, bV]); done)
      | (cases hw : re.whole caps 255 <;> (simp only [vsL, vsB, vsC, appendWp, Nat.reduceShiftRight, Nat.reduceMod, Nat.reduceLT, Nat.reduceMul, Nat.reduceSub, Int.reduceToNat, Int.reduceNeg, Int.reduceLT, Int.reduceLE, Int.reduceEq, Nat.reduceEqDiff, Nat.reduceAdd, Nat.reduceLeDiff, reduceIte, reduceCtorEq, Nat.reduceBEq, tysA, i64, bV]); done)

end Go.Proofs.Ytafbdphblilenaa

set_option linter.unusedSimpArgs false
set_option linter.unusedVariables false
namespace Go.Proofs.Ytafbdphblilenaa
open Go.VL

/-! ### The paths of a tree -/

mutual
def Re.paths : Re → List (List Int)
  | .mk _ _ kids _ _ _ _ _ => [] :: Re.pathsL kids 0
def Re.pathsL : List Re → Int → List (List Int)
  | [], _ => []
  | k :: l, i => k.paths.map (fun p => i :: p) ++ Re.pathsL l (i + 1)
end

theorem Re.paths_eq (re : Re) : re.paths = [] :: Re.pathsL re.kids 0 := by cases re; simp [Re.paths, Re.kids]

theorem Re.pathsL_snoc : ∀ (l : List Re) (k : Re) (i : Int), Re.pathsL (l ++ [k]) i = Re.pathsL l i ++ k.paths.map (fun p => (i + l.length) :: p)
  | [], k, i => by simp [Re.pathsL]
  | x :: l, k, i => by
    simp only [List.cons_append, Re.pathsL, Re.pathsL_snoc l k, List.append_assoc, List.length_cons]
    congr 2
    apply List.map_congr_left
    intro p _
    congr 1
    omega

theorem Re.pathsL_len_aux {l : List Re} (h : ∀ k ∈ l, k.paths.length = k.size) : ∀ i, (Re.pathsL l i).length = Re.sizeL l := by
  induction l with
  | nil => intro i; simp [Re.pathsL, Re.sizeL]
  | cons k l ih => intro i; simp [Re.pathsL, Re.sizeL, ih (fun x hx => h x (by simp [hx])), h k (by simp)]

theorem Re.paths_len (re : Re) : re.paths.length = re.size := by
  refine Re.ind (Q := fun re => re.paths.length = re.size) (fun re ih => ?_) re
  rw [Re.paths_eq, Re.size_eq, List.length_cons, Re.pathsL_len_aux ih]
  omega

theorem Re.pathsL_len (l : List Re) (i : Int) : (Re.pathsL l i).length = Re.sizeL l := Re.pathsL_len_aux (fun k _ => k.paths_len) i

theorem Re.pathsL_mem {l : List Re} {i : Int} {p : List Int} (h : p ∈ Re.pathsL l i) : ∃ k ∈ l, ∃ x, ∃ q ∈ k.paths, p = x :: q := by
  induction l generalizing i with
  | nil => simp [Re.pathsL] at h
  | cons k l ih =>
    simp only [Re.pathsL, List.mem_append, List.mem_map] at h
    rcases h with ⟨q, hq, rfl⟩ | h
    · exact ⟨k, by simp, i, q, hq, rfl⟩
    · obtain ⟨k', hk', r⟩ := ih h
      exact ⟨k', by simp [hk'], r⟩

theorem Re.paths_short (re : Re) : ∀ p ∈ re.paths, p.length < re.size := by
  refine Re.ind (Q := fun re => ∀ p ∈ re.paths, p.length < re.size) (fun re ih => ?_) re
  intro p hp
  rw [Re.paths_eq] at hp
  rcases List.mem_cons.1 hp with rfl | hp
  · exact re.size_pos
  · obtain ⟨k, hk, x, q, hq, rfl⟩ := Re.pathsL_mem hp
    have h1 := ih k hk q hq
    have h2 := Re.size_kid hk
    simp only [List.length_cons]
    omega

def pathD (p : List Int) : List D := [intsD p]
def pathsD (l : List (List Int)) : D := .sl (l.map pathD)

theorem pathD_len (p : List Int) : (pathD p).length = 1 := rfl

set_option maxRecDepth 100000 in
set_option maxHeartbeats 8000000 in
theorem refPaths_ok (re : Re) (hs : re.size ≤ 100000) : PureOK Try.prog 20 [reV re] (.d (pathsD re.paths)) := by
  revert hs
  refine Re.ind (Q := fun re => re.size ≤ 100000 → PureOK Try.prog 20 [reV re] (.d (pathsD re.paths))) (fun re ih hs => ?_) re
  have hlen := Re.len_le re.kids
  have hsz := Re.size_eq re
  rw [Re.paths_eq]
  let B : List VL.Obj := [⟨0, true, 8, [re.cells.map .d]⟩]
  refine fn_ok Try.func20 rfl Try.ntmps20 Try.results20 rfl 0 127 (by simp) (by simp) ?_
  simp only [vsL, vsB, vsC, appendWp, Nat.reduceShiftRight, Nat.reduceMod, Nat.reduceLT, Nat.reduceMul, Nat.reduceSub, Int.reduceToNat, Int.reduceNeg, Int.reduceLT, Int.reduceLE, Int.reduceEq, Nat.reduceEqDiff, Nat.reduceAdd, Nat.reduceLeDiff, reduceIte, reduceCtorEq, Nat.reduceBEq, tysA, i64, reV_eq re, iD, bD]
  refine loop_rule (fun n e s => ∃ i : Nat, n = re.kids.length - i ∧ i ≤ re.kids.length ∧ e 1 = .rf 0 0 0 0 ∧ e 4 = i64 i ∧ Acc B 1 (e 3) s (([] :: Re.pathsL (re.kids.take i) 0).map pathD))
    ⟨_, _, _, Cln.refl, 0, rfl, by omega, rfl, rfl, by simp only [Re.pathsL, List.take_zero, B]; rw [Re.cells_eq re]; exact Acc.start⟩ ?_
  rintro n e s ⟨i, rfl, hi, h1, h4, hacc⟩
  have hB := hacc.get (id := 0) (o := ⟨0, true, 8, [re.cells.map .d]⟩) rfl
  rw [Re.cells_eq re] at hB
  simp only [iD, bD, List.map_cons, List.map_nil] at hB
  rcases Nat.lt_or_ge i re.kids.length with hlt | hge
  · obtain ⟨k, hk⟩ : ∃ k, re.kids[i]? = some k := ⟨_, List.getElem?_eq_getElem hlt⟩
    have hm := List.mem_of_getElem? hk
    have hks := Re.size_kid hm
    simp only [vsL, vsB, vsC, appendWp, Nat.reduceShiftRight, Nat.reduceMod, Nat.reduceLT, Nat.reduceMul, Nat.reduceSub, Int.reduceToNat, Int.reduceNeg, Int.reduceLT, Int.reduceLE, Int.reduceEq, Nat.reduceEqDiff, Nat.reduceAdd, Nat.reduceLeDiff, reduceIte, reduceCtorEq, Nat.reduceBEq, tysA, i64, iD, bD, h1, h4, hB, hlt, hk]
    refine call_pure (ih k hm (by omega)) (by simp [refsV, refsV.go, reV_eq, i64, bV, reEl]) (by simp [refsV, refsV.go, reV_eq, i64, bV, reEl]) ?_
    have hps := k.paths_len
    have hpl := fun p hp => Re.paths_short k p hp
    generalize hkp : k.paths = ps at *
    simp only [vsL, vsB, vsC, appendWp, Nat.reduceShiftRight, Nat.reduceMod, Nat.reduceLT, Nat.reduceMul, Nat.reduceSub, Int.reduceToNat, Int.reduceNeg, Int.reduceLT, Int.reduceLE, Int.reduceEq, Nat.reduceEqDiff, Nat.reduceAdd, Nat.reduceLeDiff, reduceIte, reduceCtorEq, Nat.reduceBEq, tysA, i64, iD, bD, h1, h4, hB]
    refine loop_rule (fun n e s => ∃ j : Nat, n = ps.length - j ∧ j ≤ ps.length ∧ e 1 = .rf 0 0 0 0 ∧ e 4 = i64 i ∧ e 5 = .d (pathsD ps) ∧ e 6 = i64 j ∧ Acc B 1 (e 3) s (([] :: Re.pathsL (re.kids.take i) 0 ++ (ps.take j).map (fun p => (i : Int) :: p)).map pathD))
      ⟨_, _, _, Cln.refl, 0, rfl, by omega, ?_, ?_, rfl, rfl, ?_⟩ ?_ <;> (try simp only [keepE_app, List.contains_cons, List.contains_nil, Nat.reduceBEq, Bool.or_false, Bool.false_or, Bool.or_true, Bool.true_or, updE, trimE_upd, trimE_trim, trimE_app, Nat.reduceShiftRight, Nat.reduceMod, Nat.reduceEqDiff, if_true, if_false, reduceIte])
    · exact h1
    · exact h4
    · simpa using hacc
    clear hacc h1 h4 hB
    rintro n e s ⟨j, rfl, hj, h1, h4, h5, h6, hacc⟩
    have hB := hacc.get (id := 0) (o := ⟨0, true, 8, [re.cells.map .d]⟩) rfl
    rw [Re.cells_eq re] at hB
    simp only [iD, bD, List.map_cons, List.map_nil] at hB
    have htl := Re.sizeL_take re.kids (i + 1)
    rw [take_get hk, Re.sizeL_append] at htl
    simp only [Re.sizeL] at htl
    have hcl : (([] :: Re.pathsL (re.kids.take i) 0 ++ (ps.take j).map (fun p => (i : Int) :: p)).map pathD).length ≤ 100000 := by
      simp only [List.length_map, List.length_append, List.length_cons, List.length_take, Re.pathsL_len]
      omega
    rcases Nat.lt_or_ge j ps.length with hjl | hjg
    · obtain ⟨p, hp⟩ : ∃ p, ps[j]? = some p := ⟨_, List.getElem?_eq_getElem hjl⟩
      have hpm := hpl p (List.mem_of_getElem? hp)
      simp only [vsL, vsB, vsC, Nat.reduceShiftRight, Nat.reduceMod, Nat.reduceLT, Nat.reduceMul, Nat.reduceSub, Int.reduceToNat, Int.reduceNeg, Int.reduceLT, Int.reduceLE, Int.reduceEq, Nat.reduceEqDiff, Nat.reduceAdd, Nat.reduceLeDiff, reduceIte, reduceCtorEq, Nat.reduceBEq, tysA, i64, iD, bD, h1, h4, h5, h6, hB, pathsD, hjl, hp, pathD]
      refine app_data (i := ⟨1, false, 8, [.int .i64 0]⟩) slTy22 (by decide) (by decide) (by simp) (by simp) (by simp) (by simp; omega) ?_
      simp only [vsL, vsB, vsC, Nat.reduceShiftRight, Nat.reduceMod, Nat.reduceLT, Nat.reduceMul, Nat.reduceSub, Int.reduceToNat, Int.reduceNeg, Int.reduceLT, Int.reduceLE, Int.reduceEq, Nat.reduceEqDiff, Nat.reduceAdd, Nat.reduceLeDiff, reduceIte, reduceCtorEq, Nat.reduceBEq, tysA, i64, iD, bD, h1, h4, h5, h6, hB]
      refine hacc.append slTy40 rfl (by decide) (by decide) (by intro x hx; obtain ⟨y, _, rfl⟩ := List.mem_map.1 hx; rfl) (by simp) (by simp) (by simp only [List.length_cons, List.length_nil]; omega) (fun v' s' hacc' => ?_)
      simp only [vsL, vsB, vsC, Nat.reduceShiftRight, Nat.reduceMod, Nat.reduceLT, Nat.reduceMul, Nat.reduceSub, Int.reduceToNat, Int.reduceNeg, Int.reduceLT, Int.reduceLE, Int.reduceEq, Nat.reduceEqDiff, Nat.reduceAdd, Nat.reduceLeDiff, reduceIte, reduceCtorEq, Nat.reduceBEq, tysA, i64, iD, bD, h1, h4, h5, h6, hB]
      refine ⟨ps.length - (j + 1), _, _, by omega, Cln.refl, j + 1, rfl, hjl, ?_, ?_, ?_, ?_, ?_⟩ <;> (try simp only [keepE_app, List.contains_cons, List.contains_nil, Nat.reduceBEq, Bool.or_false, Bool.false_or, Bool.or_true, Bool.true_or, updE, trimE_upd, trimE_trim, trimE_app, Nat.reduceShiftRight, Nat.reduceMod, Nat.reduceEqDiff, if_true, if_false, reduceIte])
      · exact h1
      · exact h4
      · exact h5
      · rw [w64 _ (by omega)]; rfl
      · rw [take_get hp]
        simpa [pathD, intsD, iD] using hacc'
    · have hje : j = ps.length := by omega
      subst hje
      rw [List.take_length] at hacc
      simp only [vsL, vsB, vsC, Nat.reduceShiftRight, Nat.reduceMod, Nat.reduceLT, Nat.reduceMul, Nat.reduceSub, Int.reduceToNat, Int.reduceNeg, Int.reduceLT, Int.reduceLE, Int.reduceEq, Nat.reduceEqDiff, Nat.reduceAdd, Nat.reduceLeDiff, reduceIte, reduceCtorEq, Nat.reduceBEq, tysA, i64, iD, bD, h1, h4, h5, h6, hB, pathsD, Nat.lt_irrefl]
      refine ⟨re.kids.length - (i + 1), _, _, by omega, Cln.refl, i + 1, rfl, hlt, ?_, ?_, ?_⟩ <;> (try simp only [keepE_app, List.contains_cons, List.contains_nil, Nat.reduceBEq, Bool.or_false, Bool.false_or, Bool.or_true, Bool.true_or, updE, trimE_upd, trimE_trim, trimE_app, Nat.reduceShiftRight, Nat.reduceMod, Nat.reduceEqDiff, if_true, if_false, reduceIte])
      · exact h1
      · rw [w64 _ (by omega)]; rfl
      · rw [take_get hk, Re.pathsL_snoc]
        simpa [Nat.min_eq_left hi, hkp] using hacc
  · have hie : i = re.kids.length := by omega
    subst hie
    rw [List.take_length] at hacc
    simp only [vsL, vsB, vsC, Nat.reduceShiftRight, Nat.reduceMod, Nat.reduceLT, Nat.reduceMul, Nat.reduceSub, Int.reduceToNat, Int.reduceNeg, Int.reduceLT, Int.reduceLE, Int.reduceEq, Nat.reduceEqDiff, Nat.reduceAdd, Nat.reduceLeDiff, reduceIte, reduceCtorEq, Nat.reduceBEq, tysA, i64, iD, bD, h1, h4, hB, Nat.lt_irrefl]
    rw [hacc.frz (by simp)]
    rfl

end Go.Proofs.Ytafbdphblilenaa

namespace Go.Proofs.Ytafbdphblilenaa
open Go.VL

theorem frzV_go_d (lim : Nat) (s : List VL.Obj) : ∀ l : List D, frzV.go lim s (l.map V.d) = some (l.map V.d)
  | [] => rfl
  | x :: l => by rw [List.map_cons, frzV.go, frzV_go_d lim s l]; rfl

theorem frzV_reV (lim : Nat) (s : List VL.Obj) (re : Re) : frzV lim s (reV re) = some (reV re) := by
  unfold reV; rw [frzV, frzV_go_d]; rfl

theorem refsV_reV (lim : Nat) (re : Re) : refsV lim (reV re) = true := by
  unfold reV; rw [refsV, refsV_go_d]

end Go.Proofs.Ytafbdphblilenaa

set_option linter.unusedSimpArgs false
set_option linter.unusedVariables false
namespace Go.Proofs.Ytafbdphblilenaa
open Go.VL

/-! ### The reference's At and Put -/

def zeroRe : Re := .mk 0 [] [] 0 0 0 0 false

def Re.atR : Re → List Int → Re × Int
  | re, [] => (re, 0)
  | re, i :: p => if i < 0 ∨ re.kids.length ≤ i then (zeroRe, 7) else match re.kids[i.toNat]? with
    | some k => k.atR p
    | none => (zeroRe, 7)

set_option maxRecDepth 100000 in
set_option maxHeartbeats 8000000 in
theorem refAt_ok (p : List Int) : ∀ re : Re, re.fine = true → PureOK Try.prog 23 [reV re, .d (intsD p)] (.tu [reV (re.atR p).1, i64 (re.atR p).2]) := by
  induction p with
  | nil =>
    intro re hf
    rw [show re.atR [] = (re, 0) by cases re; rfl]
    refine fn_ok Try.func23 rfl Try.ntmps23 Try.results23 rfl 0 55 (by simp) (by simp) ?_
    simp only [vsL, vsB, vsC, appendWp, Nat.reduceShiftRight, Nat.reduceMod, Nat.reduceLT, Nat.reduceMul, Nat.reduceSub, Int.reduceToNat, Int.reduceNeg, Int.reduceLT, Int.reduceLE, Int.reduceEq, Nat.reduceEqDiff, Nat.reduceAdd, Nat.reduceLeDiff, reduceIte, reduceCtorEq, Nat.reduceBEq, tysA, i64, reV_eq re, iD, bD, intsD, List.map_nil, Int.natCast_zero]
  | cons i p ih =>
    intro re hf
    obtain ⟨hset1, hlen, hfk⟩ := Re.fine_spec hf
    have hne : ¬ (((p.length + 1 : Nat) : Int) = 0) := by omega
    have hp0 : (0 : Int) < ((p.length + 1 : Nat) : Int) := by omega
    by_cases hbad : i < 0 ∨ re.kids.length ≤ i
    · rw [show re.atR (i :: p) = (zeroRe, 7) by rw [Re.atR, if_pos hbad]]
      have hb2 : i < 0 ∨ (¬ i < 0 ∧ (re.kids.length : Int) ≤ i) := by omega
      rcases hb2 with c1 | ⟨c1, c2⟩
      · refine fn_ok Try.func23 rfl Try.ntmps23 Try.results23 rfl 0 55 (by simp) (by simp) ?_
        simp only [vsL, vsB, vsC, appendWp, Nat.reduceShiftRight, Nat.reduceMod, Nat.reduceLT, Nat.reduceMul, Nat.reduceSub, Int.reduceToNat, Int.reduceNeg, Int.reduceLT, Int.reduceLE, Int.reduceEq, Nat.reduceEqDiff, Nat.reduceAdd, Nat.reduceLeDiff, reduceIte, reduceCtorEq, Nat.reduceBEq, tysA, i64, reV_eq re, iD, bD, intsD, List.map_cons, hne]
        refine draw_c mix [] [] (by rfl) ?_
        simp only [vsL, vsB, vsC, appendWp, Nat.reduceShiftRight, Nat.reduceMod, Nat.reduceLT, Nat.reduceMul, Nat.reduceSub, Int.reduceToNat, Int.reduceNeg, Int.reduceLT, Int.reduceLE, Int.reduceEq, Nat.reduceEqDiff, Nat.reduceAdd, Nat.reduceLeDiff, reduceIte, reduceCtorEq, Nat.reduceBEq, tysA, i64, reV_eq re, iD, bD, intsD, List.map_cons, hne, hp0, c1]
        simp [zeroRe, reV_eq, Re.op, Re.set, Re.kids, Re.mn, Re.mx, Re.mode, Re.n, Re.neg, iD, bD]
      · refine fn_ok Try.func23 rfl Try.ntmps23 Try.results23 rfl 0 55 (by simp) (by simp) ?_
        simp only [vsL, vsB, vsC, appendWp, Nat.reduceShiftRight, Nat.reduceMod, Nat.reduceLT, Nat.reduceMul, Nat.reduceSub, Int.reduceToNat, Int.reduceNeg, Int.reduceLT, Int.reduceLE, Int.reduceEq, Nat.reduceEqDiff, Nat.reduceAdd, Nat.reduceLeDiff, reduceIte, reduceCtorEq, Nat.reduceBEq, tysA, i64, reV_eq re, iD, bD, intsD, List.map_cons, hne]
        refine draw_c mix [] [] (by rfl) ?_
        simp only [vsL, vsB, vsC, appendWp, Nat.reduceShiftRight, Nat.reduceMod, Nat.reduceLT, Nat.reduceMul, Nat.reduceSub, Int.reduceToNat, Int.reduceNeg, Int.reduceLT, Int.reduceLE, Int.reduceEq, Nat.reduceEqDiff, Nat.reduceAdd, Nat.reduceLeDiff, reduceIte, reduceCtorEq, Nat.reduceBEq, tysA, i64, reV_eq re, iD, bD, intsD, List.map_cons, hne, hp0, c1, c2]
        simp [zeroRe, reV_eq, Re.op, Re.set, Re.kids, Re.mn, Re.mx, Re.mode, Re.n, Re.neg, iD, bD]
    · have c1 : ¬ i < 0 := fun h => hbad (.inl h)
      have c2 : ¬ (re.kids.length : Int) ≤ i := fun h => hbad (.inr h)
      have hlt : i.toNat < re.kids.length := by omega
      obtain ⟨k, hk⟩ : ∃ k, re.kids[i.toNat]? = some k := ⟨_, List.getElem?_eq_getElem hlt⟩
      have hm := List.mem_of_getElem? hk
      rw [show re.atR (i :: p) = k.atR p by rw [Re.atR, if_neg hbad, hk]]
      have q0 : 0 ≤ i := by omega
      have q1 : i < re.kids.length := by omega
      refine fn_ok Try.func23 rfl Try.ntmps23 Try.results23 rfl 0 55 (by simp) (by simp) ?_
      simp only [vsL, vsB, vsC, appendWp, Nat.reduceShiftRight, Nat.reduceMod, Nat.reduceLT, Nat.reduceMul, Nat.reduceSub, Int.reduceToNat, Int.reduceNeg, Int.reduceLT, Int.reduceLE, Int.reduceEq, Nat.reduceEqDiff, Nat.reduceAdd, Nat.reduceLeDiff, reduceIte, reduceCtorEq, Nat.reduceBEq, tysA, i64, reV_eq re, iD, bD, intsD, List.map_cons, hne]
      refine draw_c mix [] [] (by rfl) ?_
      simp only [vsL, vsB, vsC, appendWp, Nat.reduceShiftRight, Nat.reduceMod, Nat.reduceLT, Nat.reduceMul, Nat.reduceSub, Int.reduceToNat, Int.reduceNeg, Int.reduceLT, Int.reduceLE, Int.reduceEq, Nat.reduceEqDiff, Nat.reduceAdd, Nat.reduceLeDiff, reduceIte, reduceCtorEq, Nat.reduceBEq, tysA, i64, reV_eq re, iD, bD, intsD, List.map_cons, hne, hp0, c1, c2]
      refine draw_c mix [12] [] (by rfl) ?_
      simp only [vsL, vsB, vsC, appendWp, Nat.reduceShiftRight, Nat.reduceMod, Nat.reduceLT, Nat.reduceMul, Nat.reduceSub, Int.reduceToNat, Int.reduceNeg, Int.reduceLT, Int.reduceLE, Int.reduceEq, Nat.reduceEqDiff, Nat.reduceAdd, Nat.reduceLeDiff, reduceIte, reduceCtorEq, Nat.reduceBEq, tysA, i64, reV_eq re, iD, bD, intsD, List.map_cons, hne, hp0, c1, c2, q0, q1, hk]
      have hl1 : ((p.length + 1 : Nat) : Int) - 1 = (p.length : Nat) := by omega
      have hl2 : (p.map (fun x => [D.sc (.int .i64 x)])).take p.length = p.map (fun x => [D.sc (.int .i64 x)]) := List.take_of_length_le (by simp)
      rw [hl1, Int.toNat_natCast, hl2]
      refine ⟨⟨by omega, by omega⟩, ?_, ?_⟩
      · intro x hx
        rcases List.mem_cons.1 hx with rfl | hx
        · rfl
        · obtain ⟨y, _, rfl⟩ := List.mem_map.1 hx; rfl
      refine callC_pure (ih k (hfk k hm)) (by simp [refsV, refsV.go, reV_eq, i64, bV, reEl]) (by simp [refsV, refsV.go, reV_eq, i64, bV, reEl]) ?_
      simp only [vsL, vsB, vsC, appendWp, Nat.reduceShiftRight, Nat.reduceMod, Nat.reduceLT, Nat.reduceMul, Nat.reduceSub, Int.reduceToNat, Int.reduceNeg, Int.reduceLT, Int.reduceLE, Int.reduceEq, Nat.reduceEqDiff, Nat.reduceAdd, Nat.reduceLeDiff, reduceIte, reduceCtorEq, Nat.reduceBEq, tysA, i64, reV_eq re, iD, bD, intsD, List.map_cons, frzV_reV]

/-- Another part at a path. -/
def Re.setKids : Re → List Re → Re
  | .mk op set _ mn mx mode n neg, l => .mk op set l mn mx mode n neg

def Re.putR : Re → List Int → Re → Re × Int
  | _, [], x => (x, 0)
  | re, i :: p, x => if i < 0 ∨ re.kids.length ≤ i then (zeroRe, 7) else match re.kids[i.toNat]? with
    | some k => if (k.putR p x).2 ≠ 0 then (zeroRe, (k.putR p x).2) else (re.setKids (re.kids.take i.toNat ++ (k.putR p x).1 :: re.kids.drop (i.toNat + 1)), 0)
    | none => (zeroRe, 7)

theorem Re.setKids_cells (re : Re) (l : List Re) : reV (re.setKids l) = .ag [.d (iD re.op), .d (.sl (re.set.map spanC)), .d (.sl (l.map Re.cells)), .d (iD re.mn), .d (iD re.mx), .d (iD re.mode), .d (iD re.n), .d (bD re.neg)] := by
  cases re; rw [reV_eq]; rfl

theorem reV_zero : reV zeroRe = .ag [.d (iD 0), .d (.sl []), .d (.sl []), .d (iD 0), .d (iD 0), .d (iD 0), .d (iD 0), .d (bD false)] := by
  rw [reV_eq]; rfl

set_option maxRecDepth 100000 in
set_option maxHeartbeats 8000000 in
theorem refPut_ok (x : Re) (p : List Int) : ∀ re : Re, re.fine = true → PureOK Try.prog 25 [reV re, .d (intsD p), reV x] (.tu [reV (re.putR p x).1, i64 (re.putR p x).2]) := by
  induction p with
  | nil =>
    intro re hf
    rw [show re.putR [] x = (x, 0) by cases re; rfl]
    refine fn_ok Try.func25 rfl Try.ntmps25 Try.results25 rfl 0 2031 (by simp) (by simp) ?_
    simp only [vsL, vsB, vsC, appendWp, Nat.reduceShiftRight, Nat.reduceMod, Nat.reduceLT, Nat.reduceMul, Nat.reduceSub, Int.reduceToNat, Int.reduceNeg, Int.reduceLT, Int.reduceLE, Int.reduceEq, Nat.reduceEqDiff, Nat.reduceAdd, Nat.reduceLeDiff, reduceIte, reduceCtorEq, Nat.reduceBEq, tysA, i64, reV_eq re, reV_eq x, iD, bD, intsD, List.map_nil, Int.natCast_zero]
  | cons i p ih =>
    intro re hf
    obtain ⟨hset1, hlen, hfk⟩ := Re.fine_spec hf
    have hne : ¬ (((p.length + 1 : Nat) : Int) = 0) := by omega
    have hp0 : (0 : Int) < ((p.length + 1 : Nat) : Int) := by omega
    by_cases hbad : i < 0 ∨ re.kids.length ≤ i
    · rw [show re.putR (i :: p) x = (zeroRe, 7) by rw [Re.putR, if_pos hbad], reV_zero]
      have hb2 : i < 0 ∨ (¬ i < 0 ∧ (re.kids.length : Int) ≤ i) := by omega
      rcases hb2 with c1 | ⟨c1, c2⟩
      · refine fn_ok Try.func25 rfl Try.ntmps25 Try.results25 rfl 0 2031 (by simp) (by simp) ?_
        simp only [vsL, vsB, vsC, appendWp, Nat.reduceShiftRight, Nat.reduceMod, Nat.reduceLT, Nat.reduceMul, Nat.reduceSub, Int.reduceToNat, Int.reduceNeg, Int.reduceLT, Int.reduceLE, Int.reduceEq, Nat.reduceEqDiff, Nat.reduceAdd, Nat.reduceLeDiff, reduceIte, reduceCtorEq, Nat.reduceBEq, tysA, i64, reV_eq re, reV_eq x, iD, bD, intsD, List.map_cons, hne]
        refine draw_c mix [] [] (by rfl) ?_
        simp only [vsL, vsB, vsC, appendWp, Nat.reduceShiftRight, Nat.reduceMod, Nat.reduceLT, Nat.reduceMul, Nat.reduceSub, Int.reduceToNat, Int.reduceNeg, Int.reduceLT, Int.reduceLE, Int.reduceEq, Nat.reduceEqDiff, Nat.reduceAdd, Nat.reduceLeDiff, reduceIte, reduceCtorEq, Nat.reduceBEq, tysA, i64, reV_eq re, iD, bD, intsD, List.map_cons, hne, hp0, c1]
      · refine fn_ok Try.func25 rfl Try.ntmps25 Try.results25 rfl 0 2031 (by simp) (by simp) ?_
        simp only [vsL, vsB, vsC, appendWp, Nat.reduceShiftRight, Nat.reduceMod, Nat.reduceLT, Nat.reduceMul, Nat.reduceSub, Int.reduceToNat, Int.reduceNeg, Int.reduceLT, Int.reduceLE, Int.reduceEq, Nat.reduceEqDiff, Nat.reduceAdd, Nat.reduceLeDiff, reduceIte, reduceCtorEq, Nat.reduceBEq, tysA, i64, reV_eq re, reV_eq x, iD, bD, intsD, List.map_cons, hne]
        refine draw_c mix [] [] (by rfl) ?_
        simp only [vsL, vsB, vsC, appendWp, Nat.reduceShiftRight, Nat.reduceMod, Nat.reduceLT, Nat.reduceMul, Nat.reduceSub, Int.reduceToNat, Int.reduceNeg, Int.reduceLT, Int.reduceLE, Int.reduceEq, Nat.reduceEqDiff, Nat.reduceAdd, Nat.reduceLeDiff, reduceIte, reduceCtorEq, Nat.reduceBEq, tysA, i64, reV_eq re, iD, bD, intsD, List.map_cons, hne, hp0, c1, c2]
    · have c1 : ¬ i < 0 := fun h => hbad (.inl h)
      have c2 : ¬ (re.kids.length : Int) ≤ i := fun h => hbad (.inr h)
      have hlt : i.toNat < re.kids.length := by omega
      obtain ⟨k, hk⟩ : ∃ k, re.kids[i.toNat]? = some k := ⟨_, List.getElem?_eq_getElem hlt⟩
      have hm := List.mem_of_getElem? hk
      rw [show re.putR (i :: p) x = if (k.putR p x).2 ≠ 0 then (zeroRe, (k.putR p x).2) else (re.setKids (re.kids.take i.toNat ++ (k.putR p x).1 :: re.kids.drop (i.toNat + 1)), 0) by rw [Re.putR, if_neg hbad, hk]]
      have hih := ih k (hfk k hm)
      generalize k.putR p x = kr at *
      obtain ⟨kr, ke⟩ := kr
      have q0 : 0 ≤ i := by omega
      have q1 : i < re.kids.length := by omega
      have hl1 : ((p.length + 1 : Nat) : Int) - 1 = (p.length : Nat) := by omega
      have hl2 : (p.map (fun x => [D.sc (.int .i64 x)])).take p.length = p.map (fun x => [D.sc (.int .i64 x)]) := List.take_of_length_le (by simp)
      have hpl : ∀ e ∈ ([D.sc (.int .i64 i)] :: p.map (fun x => [D.sc (.int .i64 x)])), e.length = 1 := by
        intro x hx
        rcases List.mem_cons.1 hx with rfl | hx
        · rfl
        · obtain ⟨y, _, rfl⟩ := List.mem_map.1 hx; rfl
      refine fn_ok Try.func25 rfl Try.ntmps25 Try.results25 rfl 0 2031 (by simp) (by simp) ?_
      simp only [vsL, vsB, vsC, appendWp, Nat.reduceShiftRight, Nat.reduceMod, Nat.reduceLT, Nat.reduceMul, Nat.reduceSub, Int.reduceToNat, Int.reduceNeg, Int.reduceLT, Int.reduceLE, Int.reduceEq, Nat.reduceEqDiff, Nat.reduceAdd, Nat.reduceLeDiff, reduceIte, reduceCtorEq, Nat.reduceBEq, tysA, i64, reV_eq re, reV_eq x, iD, bD, intsD, List.map_cons, hne]
      refine draw_c mix [] [] (by rfl) ?_
      simp only [vsL, vsB, vsC, appendWp, Nat.reduceShiftRight, Nat.reduceMod, Nat.reduceLT, Nat.reduceMul, Nat.reduceSub, Int.reduceToNat, Int.reduceNeg, Int.reduceLT, Int.reduceLE, Int.reduceEq, Nat.reduceEqDiff, Nat.reduceAdd, Nat.reduceLeDiff, reduceIte, reduceCtorEq, Nat.reduceBEq, tysA, i64, reV_eq re, iD, bD, intsD, List.map_cons, hne, hp0, c1, c2]
      refine draw_first Cln0.reserve ?_
      refine draw_c mix [] [(14, [3], [3]), (15, [3], [3])] (by rfl) ?_
      simp only [vsL, vsB, vsC, appendWp, Nat.reduceShiftRight, Nat.reduceMod, Nat.reduceLT, Nat.reduceMul, Nat.reduceSub, Int.reduceToNat, Int.reduceNeg, Int.reduceLT, Int.reduceLE, Int.reduceEq, Nat.reduceEqDiff, Nat.reduceAdd, Nat.reduceLeDiff, reduceIte, reduceCtorEq, Nat.reduceBEq, tysA, i64, reV_eq re, iD, bD, intsD, List.map_cons, hne, hp0, c1, c2, q0, q1, hk, hl1, hl2, Int.toNat_natCast]
      refine ⟨⟨by omega, by omega⟩, hpl, ?_⟩
      rw [reV_eq x] at hih
      simp only [iD, bD] at hih
      refine callC_pure hih (by simp [refsV, refsV.go, reV_eq, i64, bV, reEl]) (by simp [refsV, refsV.go, reV_eq, i64, bV, reEl]) ?_
      simp only [vsL, vsB, vsC, appendWp, Nat.reduceShiftRight, Nat.reduceMod, Nat.reduceLT, Nat.reduceMul, Nat.reduceSub, Int.reduceToNat, Int.reduceNeg, Int.reduceLT, Int.reduceLE, Int.reduceEq, Nat.reduceEqDiff, Nat.reduceAdd, Nat.reduceLeDiff, reduceIte, reduceCtorEq, Nat.reduceBEq, tysA, i64, reV_eq re, iD, bD, intsD, List.map_cons]
      by_cases he : ke = 0
      · have w1 : IntKind.i64.wrap (i + 1) = i + 1 := w64 _ (by omega)
        have q2 : 0 ≤ i + 1 := by omega
        have q3 : i + 1 ≤ re.kids.length := by omega
        have q4 : i ≤ re.kids.length := by omega
        simp only [vsL, vsB, vsC, appendWp, Nat.reduceShiftRight, Nat.reduceMod, Nat.reduceLT, Nat.reduceMul, Nat.reduceSub, Int.reduceToNat, Int.reduceNeg, Int.reduceLT, Int.reduceLE, Int.reduceEq, Nat.reduceEqDiff, Nat.reduceAdd, Nat.reduceLeDiff, reduceIte, reduceCtorEq, Nat.reduceBEq, tysA, he]
        refine draw_c mix [7] [] (by rfl) ?_
        simp only [vsL, vsB, vsC, appendWp, Nat.reduceShiftRight, Nat.reduceMod, Nat.reduceLT, Nat.reduceMul, Nat.reduceSub, Int.reduceToNat, Int.reduceNeg, Int.reduceLT, Int.reduceLE, Int.reduceEq, Nat.reduceEqDiff, Nat.reduceAdd, Nat.reduceLeDiff, reduceIte, reduceCtorEq, Nat.reduceBEq, tysA, i64, iD, bD, hp0, q0, q1, q4, Int.sub_zero, true_or]
        have hAl : (List.take i.toNat (re.kids.map Re.cells)).length = i.toNat := by simp; omega
        have h8 : ∀ l : List Re, ∀ e ∈ (l.map Re.cells).map (fun x => x.map V.d), e.length = 8 := by
          intro l e he
          obtain ⟨c, hc, rfl⟩ := List.mem_map.1 he
          obtain ⟨y, _, rfl⟩ := List.mem_map.1 hc
          simp [Re.cells_len]
        have hAe : List.take i.toNat (re.kids.map Re.cells) = (re.kids.take i.toNat).map Re.cells := by rw [List.map_take]
        have hBe : List.drop (i + 1).toNat (re.kids.map Re.cells) = (re.kids.drop (i.toNat + 1)).map Re.cells := by
          rw [show (i + 1).toNat = i.toNat + 1 by omega, List.map_drop]
        have hBl : ((re.kids.drop (i.toNat + 1)).map Re.cells).length = re.kids.length - (i.toNat + 1) := by simp
        rw [hAe] at hAl ⊢
        have hcut : ∀ l : List Re, (((l.map Re.cells).map (fun x => x.map V.d)).take (0 + (l.map Re.cells).length)) = (l.map Re.cells).map (fun x => x.map V.d) := fun l => List.take_of_length_le (by simp)
        rw [hcut]
        refine ⟨h8 _, ⟨by rw [hAl]; omega, by simp⟩, by simp [Re.cells_len], ⟨by omega, by rw [hAl]; omega⟩, ?_⟩
        refine draw_c mix [8] [] (by rfl) ?_
        simp only [vsL, vsB, vsC, appendWp, Nat.reduceShiftRight, Nat.reduceMod, Nat.reduceLT, Nat.reduceMul, Nat.reduceSub, Int.reduceToNat, Int.reduceNeg, Int.reduceLT, Int.reduceLE, Int.reduceEq, Nat.reduceEqDiff, Nat.reduceAdd, Nat.reduceLeDiff, reduceIte, reduceCtorEq, Nat.reduceBEq, tysA, i64, iD, bD, hp0, q0, q1, q2, q3, q4, w1, hBe]
        have hB2 : List.take ((re.kids.length : Int) - (i + 1)).toNat ((re.kids.drop (i.toNat + 1)).map Re.cells) = (re.kids.drop (i.toNat + 1)).map Re.cells := List.take_of_length_le (by rw [hBl]; omega)
        rw [hB2]
        have e1 : List.take (0 + (re.kids.take i.toNat).length + 1) (((re.kids.take i.toNat).map Re.cells).map (fun x => x.map V.d) ++ [kr.cells.map V.d]) = ((re.kids.take i.toNat).map Re.cells).map (fun x => x.map V.d) ++ [kr.cells.map V.d] := List.take_of_length_le (by simp)
        have e2 : ((re.kids.take i.toNat).map Re.cells).map (fun x => x.map V.d) ++ [kr.cells.map V.d] ++ ((re.kids.drop (i.toNat + 1)).map Re.cells).map (fun x => x.map V.d) = ((re.kids.take i.toNat ++ kr :: re.kids.drop (i.toNat + 1)).map Re.cells).map (fun x => x.map V.d) := by simp
        simp only [List.length_map] at hBl hAl
        refine ⟨Int.le_refl _, ?_, h8 _, ⟨by simp, ?_⟩, ?_⟩
        · right; intro e he; obtain ⟨y, _, rfl⟩ := List.mem_map.1 he; simp [Re.cells_len]
        · rw [List.length_map, hBl, hAl]; omega
        rw [e1, e2, if_pos (by simp only [List.length_map, List.length_append, List.length_cons, hAl, hBl]; omega)]
        rw [frz_data 7 0 _ _ _ (by simp only [List.length_map, List.length_append, List.length_cons, hAl, hBl]; omega)]
        rw [Re.setKids_cells]
        rfl
      · rw [if_pos he, reV_zero]
        simp only [vsL, vsB, vsC, appendWp, Nat.reduceShiftRight, Nat.reduceMod, Nat.reduceLT, Nat.reduceMul, Nat.reduceSub, Int.reduceToNat, Int.reduceNeg, Int.reduceLT, Int.reduceLE, Int.reduceEq, Nat.reduceEqDiff, Nat.reduceAdd, Nat.reduceLeDiff, reduceIte, reduceCtorEq, Nat.reduceBEq, tysA, he, iD, bD]

end Go.Proofs.Ytafbdphblilenaa

set_option linter.unusedSimpArgs false
set_option linter.unusedVariables false
namespace Go.Proofs.Ytafbdphblilenaa
open Go.VL

/-! ### A pattern with one number changed -/

instance (n : Int) : Decidable (I64 n) := by unfold I64; infer_instance

/-- A node whose lists have at most c elements, and whose numbers are 64 bits. -/
def smallB (c : Nat) (r : Re) : Bool := decide (r.set.length ≤ c ∧ r.kids.length ≤ c ∧ I64 r.op ∧ I64 r.mn ∧ I64 r.mx ∧ I64 r.mode ∧ I64 r.n) && r.set.all fun s => decide (I64 s.1 ∧ I64 s.2)

structure Pat.small (p : Pat) (c : Nat) : Prop where
  ev : p.re.every (smallB c) = true
  sz : p.re.size ≤ c
  caps : I64 p.caps

theorem smallB_iff {c : Nat} {r : Re} : smallB c r = true ↔ (r.set.length ≤ c ∧ r.kids.length ≤ c ∧ I64 r.op ∧ I64 r.mn ∧ I64 r.mx ∧ I64 r.mode ∧ I64 r.n) ∧ ∀ s ∈ r.set, I64 s.1 ∧ I64 s.2 := by
  unfold smallB
  rw [Bool.and_eq_true, decide_eq_true_eq, List.all_eq_true]
  exact and_congr Iff.rfl ⟨fun h s hs => of_decide_eq_true (h s hs), fun h s hs => decide_eq_true (h s hs)⟩

theorem smallB_mono {c c' : Nat} (h : c ≤ c') (r : Re) (hr : smallB c r = true) : smallB c' r = true := by
  obtain ⟨⟨h1, h2, h3⟩, h4⟩ := smallB_iff.1 hr
  exact smallB_iff.2 ⟨⟨by omega, by omega, h3⟩, h4⟩

theorem every_mono' {p q : Re → Bool} (h : ∀ re, p re = true → q re = true) (re : Re) (hp : re.every p = true) : re.every q = true := by
  revert hp
  refine Re.ind (Q := fun re => re.every p = true → re.every q = true) (fun re ih hp => ?_) re
  obtain ⟨h1, h2⟩ := (Re.every_iff re).1 hp
  exact (Re.every_iff re).2 ⟨h re h1, fun k hk => ih k hk (h2 k hk)⟩

theorem small_fine {c : Nat} (hc : c ≤ 1000000000) (re : Re) (h : re.every (smallB c) = true) : re.fine = true := by
  revert h
  refine Re.ind (Q := fun re => re.every (smallB c) = true → re.fine = true) (fun re ih h => ?_) re
  obtain ⟨h1, h2⟩ := (Re.every_iff re).1 h
  obtain ⟨⟨a1, a2, _⟩, _⟩ := smallB_iff.1 h1
  exact (Re.fine_iff re).2 ⟨by omega, by omega, fun k hk => ih k hk (h2 k hk)⟩

theorem zero_small (c : Nat) : smallB c zeroRe = true :=
  smallB_iff.2 ⟨⟨Nat.zero_le _, Nat.zero_le _, by decide⟩, fun s hs => by cases hs⟩

theorem zero_every (c : Nat) : zeroRe.every (smallB c) = true := (Re.every_iff _).2 ⟨zero_small c, fun k hk => by cases hk⟩

theorem at_every {q : Re → Bool} (hz : zeroRe.every q = true) : ∀ (p : List Int) (re : Re), re.every q = true → (re.atR p).1.every q = true
  | [], re, h => by cases re; exact h
  | i :: p, re, h => by
    rw [Re.atR]
    split
    · exact hz
    · split
      · rename_i k hk
        exact at_every hz p k (((Re.every_iff re).1 h).2 k (List.mem_of_getElem? hk))
      · exact hz

theorem at_size : ∀ (p : List Int) (re : Re), (re.atR p).1.size ≤ re.size
  | [], re => by cases re; exact Nat.le_refl _
  | i :: p, re => by
    have h1 := re.size_pos
    rw [Re.atR]
    split
    · exact h1
    · split
      · rename_i k hk
        have := at_size p k
        have := Re.size_kid (List.mem_of_getElem? hk)
        omega
      · exact h1

theorem setKids_every {q : Re → Bool} (hq : ∀ (r : Re) (l : List Re), l.length = r.kids.length → q r = true → q (r.setKids l) = true) {re : Re} {l : List Re} (h : q re = true) (hl : l.length = re.kids.length) (hk : ∀ k ∈ l, k.every q = true) : (re.setKids l).every q = true := by
  refine (Re.every_iff _).2 ⟨hq re l hl h, fun k hk' => hk k ?_⟩
  cases re; exact hk'

theorem put_every {q : Re → Bool} (hq : ∀ (r : Re) (l : List Re), l.length = r.kids.length → q r = true → q (r.setKids l) = true) (hz : zeroRe.every q = true) {x : Re} (hx : x.every q = true) : ∀ (p : List Int) (re : Re), re.every q = true → (re.putR p x).1.every q = true
  | [], re, h => by cases re; exact hx
  | i :: p, re, h => by
    rw [Re.putR]
    split
    · exact hz
    · rename_i hb
      split
      · rename_i k hk
        obtain ⟨h1, h2⟩ := (Re.every_iff re).1 h
        have hlt := (List.getElem?_eq_some_iff.1 hk).1
        split
        · exact hz
        · refine setKids_every hq h1 ?_ ?_
          · simp; omega
          · intro y hy
            rcases List.mem_append.1 hy with hy | hy
            · exact h2 y (List.mem_of_mem_take hy)
            · rcases List.mem_cons.1 hy with rfl | hy
              · exact put_every hq hz hx p k (h2 k (List.mem_of_getElem? hk))
              · exact h2 y (List.mem_of_mem_drop hy)
      · exact hz

theorem setKids_size (re : Re) (l : List Re) : (re.setKids l).size = 1 + Re.sizeL l := by cases re; simp [Re.setKids, Re.size]

theorem put_size (x : Re) : ∀ (p : List Int) (re : Re), (re.putR p x).1.size ≤ re.size + x.size
  | [], re => by cases re; simp [Re.putR]
  | i :: p, re => by
    have h1 := re.size_pos
    have hz : zeroRe.size = 1 := rfl
    rw [Re.putR]
    split
    · simp only [hz]; omega
    · split
      · rename_i k hk
        have hlt := (List.getElem?_eq_some_iff.1 hk).1
        have := put_size x p k
        split
        · simp only [hz]; omega
        · simp only [setKids_size, Re.sizeL_append, Re.sizeL]
          have e : re.kids = re.kids.take i.toNat ++ k :: re.kids.drop (i.toNat + 1) := by
            have hd := List.drop_eq_getElem_cons hlt
            rw [List.getElem?_eq_getElem hlt] at hk
            simp only [Option.some.injEq] at hk
            rw [← hk, ← hd, List.take_append_drop]
          have es : Re.sizeL re.kids = Re.sizeL (re.kids.take i.toNat) + (k.size + Re.sizeL (re.kids.drop (i.toNat + 1))) := by
            conv => lhs; rw [e]
            rw [Re.sizeL_append, Re.sizeL]
          rw [Re.size_eq re, es]
          omega
      · simp only [hz]; omega

theorem smallB_setKids (c : Nat) (r : Re) (l : List Re) (hl : l.length = r.kids.length) (h : smallB c r = true) : smallB c (r.setKids l) = true := by
  obtain ⟨⟨h1, h2, h3⟩, h4⟩ := smallB_iff.1 h
  cases r
  exact smallB_iff.2 ⟨⟨h1, by show l.length ≤ c; omega, h3⟩, h4⟩

theorem mk_small {c : Nat} {op mn mx mode n : Int} {set : List (Int × Int)} {kids : List Re} {neg : Bool} (h1 : set.length ≤ c) (h2 : kids.length ≤ c) (h3 : I64 op ∧ I64 mn ∧ I64 mx ∧ I64 mode ∧ I64 n) (h4 : ∀ s ∈ set, I64 s.1 ∧ I64 s.2) (h5 : ∀ k ∈ kids, k.every (smallB c) = true) : (Re.mk op set kids mn mx mode n neg).every (smallB c) = true :=
  (Re.every_iff _).2 ⟨smallB_iff.2 ⟨⟨h1, h2, h3⟩, h4⟩, h5⟩

theorem around_in (n m : Int) (hm : 1 ≤ m) (hn : I64 n) : 0 ≤ around n m ∧ around n m < m := by
  unfold I64 at hn
  unfold around
  split
  · exact ⟨Int.tmod_nonneg _ (by omega), Int.tmod_lt_of_pos _ (by omega)⟩
  · exact ⟨Int.tmod_nonneg _ (by omega), Int.tmod_lt_of_pos _ (by omega)⟩

theorem idx_lit (l : List Int) (n : Int) (h0 : 0 ≤ n) (h1 : n < l.length) (hl : ∀ x ∈ l, I64 x) : ∃ v, I64 v ∧ (l.map fun x => [iD x])[n.toNat]? = some [iD v] := by
  have hlt : n.toNat < l.length := by omega
  exact ⟨l[n.toNat], hl _ (List.getElem_mem hlt), by rw [List.getElem?_map, List.getElem?_eq_getElem hlt]; rfl⟩

end Go.Proofs.Ytafbdphblilenaa

set_option linter.unusedSimpArgs false
set_option linter.unusedVariables false
namespace Go.Proofs.Ytafbdphblilenaa
open Go.VL

theorem reV_mk (op mn mx mode n : Int) (set : List (Int × Int)) (kids : List Re) (neg : Bool) : reV (.mk op set kids mn mx mode n neg) = .ag [.d (iD op), .d (.sl (set.map spanC)), .d (.sl (kids.map Re.cells)), .d (iD mn), .d (iD mx), .d (iD mode), .d (iD n), .d (bD neg)] := by
  rw [reV_eq]; rfl

theorem frz_own {lim id g lo n sz : Nat} {live : Bool} {s : List VL.Obj} {els : List (List V)} {ds : List (List D)} (ho : s[id]? = some ⟨g, live, sz, els⟩) (he : (els.drop lo).take n = ds.map (fun c => c.map V.d)) (hn : lo + n ≤ els.length) (hl : lim ≤ id ∨ live = false) :
    frzV lim s (.so id g lo n) = some (.d (.sl ds)) := by
  simp only [frzV, frzD, ho, true_and]
  rw [if_pos ⟨hn, hl⟩, he, mapM_frzE]
  rfl

theorem callGiveP {P : Program} {f : FuncId} {args cargs : List V} {s : List VL.Obj} {r : V} {K : V → List VL.Obj → Prop} (ids : List Nat) (h : PureOK P f cargs r) (hc : frzV.go (killO s ids).length (killO s ids) args = some cargs) (ha : refsV.go 0 cargs = true) (hr : refsV 0 r = true) (hk : K r (killO s ids)) : callWp P f args s K :=
  call_give ids hc (call_pure h ha hr hk)

theorem Re.sizeL_drop (l : List Re) : Re.sizeL (l.drop 1) ≤ Re.sizeL l := by
  cases l with
  | nil => simp
  | cons k l => simp [Re.sizeL]

theorem cutL {l : List (List D)} {n : Nat} (hn : l.length ≤ n) : ((l.map fun c => c.map V.d).drop 0).take n = l.map (fun c => c.map V.d) := by
  rw [List.drop_zero, List.take_of_length_le (by simpa using hn)]

theorem frz3 {lim : Nat} {s : List VL.Obj} {y op mn mx mode n neg : D} {l : List V} {r : List V} {a b a' b' : V} (ha : frzV lim s a = some a') (hb : frzV lim s b = some b') (hl : frzV.go lim s l = some r) :
    frzV.go lim s [.ag l, .d y, .ag [.d op, a, b, .d mn, .d mx, .d mode, .d n, .d neg]] = some [.ag r, .d y, .ag [.d op, a', b', .d mn, .d mx, .d mode, .d n, .d neg]] := by
  simp only [frzV.go, frzV, ha, hb, hl, Option.map_some]

set_option maxRecDepth 100000 in
set_option maxHeartbeats 16000000 in
theorem spoilt_ok (c : Nat) (hc : c ≤ 40000) (p : Pat) (hp : p.small c) (tat how by' : Int) (ha : I64 tat) (hh : I64 how) (hb : I64 by') : ∃ p' : Pat, p'.small (2 * c + 1) ∧ PureOK Try.prog 33 [patV p, i64 tat, i64 how, i64 by'] (patV p') := by
  obtain ⟨re, caps, runes⟩ := p
  have hev : re.every (smallB c) = true := hp.ev
  have hsz : re.size ≤ c := hp.sz
  have hcaps : I64 caps := hp.caps
  have hf := small_fine (by omega) re hev
  have hpaths := refPaths_ok re (by omega)
  have hpl : (re.paths.length : Int) = re.size := by rw [Re.paths_len]
  have hpos := re.size_pos
  have har := around_ok tat re.size (by omega) ha
  have hin := around_in tat re.size (by omega) ha
  obtain ⟨path, hpath⟩ : ∃ q, re.paths[(around tat re.size).toNat]? = some q := ⟨_, List.getElem?_eq_getElem (by omega)⟩
  have hat := refAt_ok path re hf
  have hate := at_every (zero_every c) path re hev
  have hats := at_size path re
  have hput := fun x => refPut_ok x path re hf
  have key : ∀ (x : Re) (cp : Int) (rn : Bool), x.every (smallB (c + 1)) = true → x.size ≤ c + 1 → I64 cp → (⟨(re.putR path x).1, cp, rn⟩ : Pat).small (2 * c + 1) := by
    intro x cp rn h1 h2 h3
    refine ⟨put_every (smallB_setKids _) (zero_every _) (every_mono' (smallB_mono (by omega)) x h1) path re (every_mono' (smallB_mono (by omega)) re hev), ?_, h3⟩
    have := put_size x path re
    show (re.putR path x).1.size ≤ _
    omega
  generalize re.atR path = nd at *
  generalize re.putR path = pr at *
  generalize re.paths = ps at *
  obtain ⟨⟨op, set, kids, mn, mx, mode, n, neg⟩, ne⟩ := nd
  obtain ⟨n1, n2⟩ := (Re.every_iff _).1 hate
  obtain ⟨⟨n3, n4, n5, n6, n7, n8, n9⟩, n10⟩ := smallB_iff.1 n1
  replace n2 : ∀ k ∈ kids, k.every (smallB c) = true := n2
  replace n3 : set.length ≤ c := n3
  replace n4 : kids.length ≤ c := n4
  replace n5 : I64 op := n5
  replace n6 : I64 mn := n6
  replace n7 : I64 mx := n7
  replace n8 : I64 mode := n8
  replace n9 : I64 n := n9
  replace n10 : ∀ s ∈ set, I64 s.1 ∧ I64 s.2 := n10
  replace hats : 1 + Re.sizeL kids ≤ re.size := hats
  have hown := around_ok how 12 (by omega) hh
  have hin2 := around_in how 12 (by omega) hh
  have hcs : around how 12 = 0 ∨ around how 12 = 1 ∨ around how 12 = 2 ∨ around how 12 = 3 ∨ around how 12 = 4 ∨ around how 12 = 5 ∨ around how 12 = 6 ∨ around how 12 = 7 ∨ around how 12 = 8 ∨ around how 12 = 9 ∨ around how 12 = 10 ∨ around how 12 = 11 := by omega
  rw [reV_eq re] at hpaths hat hput
  rw [reV_mk] at hat
  simp only [i64, iD, bD] at hpaths hat hput
  have n2' : ∀ k ∈ kids, k.every (smallB (c + 1)) = true := fun k hk => every_mono' (smallB_mono (by omega)) k (n2 k hk)
  have hs2 : ∀ e ∈ (set.map spanC).map (fun x => x.map V.d), e.length = 2 := by
    intro e he
    obtain ⟨x, hx, rfl⟩ := List.mem_map.1 he
    obtain ⟨y, _, rfl⟩ := List.mem_map.1 hx
    rfl
  have hs8 : ∀ e ∈ (kids.map Re.cells).map (fun x => x.map V.d), e.length = 8 := by
    intro e he
    obtain ⟨x, hx, rfl⟩ := List.mem_map.1 he
    obtain ⟨y, _, rfl⟩ := List.mem_map.1 hx
    simp [Re.cells_len]
  rcases hcs with hk | hk | hk | hk | hk | hk | hk | hk | hk | hk | hk | hk
  · -- case 0
    rw [hk] at hown
    have hb0 := (around_in by' 6 (by omega) hb).1
    have hb1 := (around_in by' 6 (by omega) hb).2
    obtain ⟨v, hv, hidx⟩ := idx_lit [by', -1, 12, 2, 9, 4] (around by' 6) hb0 hb1 (by intro x hx; simp only [List.mem_cons, List.not_mem_nil, or_false] at hx; rcases hx with rfl | rfl | rfl | rfl | rfl | rfl <;> first | exact hb | decide)
    simp only [List.map_cons, List.map_nil, iD] at hidx
    refine ⟨⟨(pr (.mk v set kids mn mx mode n neg)).1, caps, runes⟩, key _ _ _ (mk_small (by omega) (by omega) ⟨hv, n6, n7, n8, n9⟩ n10 n2') (by simp only [Re.size]; omega) hcaps, ?_⟩
    have hput := hput (.mk v set kids mn mx mode n neg)
    rw [reV_mk] at hput
    simp only [iD, bD] at hput
    generalize pr (.mk v set kids mn mx mode n neg) = R at *
    obtain ⟨R, E⟩ := R
    refine fn_ok Try.func33 rfl Try.ntmps33 Try.results33 rfl 0 2199023259423 (by simp) (by simp) ?_
    simp only [vsL, vsB, vsC, appendWp, Nat.reduceShiftRight, Nat.reduceMod, Nat.reduceLT, Nat.reduceMul, Nat.reduceSub, Int.reduceToNat, Int.reduceNeg, Int.reduceLT, Int.reduceLE, Int.reduceEq, Nat.reduceEqDiff, Nat.reduceAdd, Nat.reduceLeDiff, reduceIte, reduceCtorEq, Nat.reduceBEq, tysA, i64, patV, Re.cells_eq re, bV, iD, bD, List.map_cons, List.map_nil]
    refine call_pure hpaths (by simp [refsV, refsV.go, reV_eq, i64, bV, reEl]) rfl ?_
    simp only [vsL, vsB, vsC, appendWp, Nat.reduceShiftRight, Nat.reduceMod, Nat.reduceLT, Nat.reduceMul, Nat.reduceSub, Int.reduceToNat, Int.reduceNeg, Int.reduceLT, Int.reduceLE, Int.reduceEq, Nat.reduceEqDiff, Nat.reduceAdd, Nat.reduceLeDiff, reduceIte, reduceCtorEq, Nat.reduceBEq, tysA, i64, pathsD, List.length_map, hpl]
    refine call_pure har (by simp [refsV, refsV.go, reV_eq, i64, bV, reEl]) (by simp [refsV, refsV.go, reV_eq, i64, bV, reEl]) ?_
    simp only [vsL, vsB, vsC, appendWp, Nat.reduceShiftRight, Nat.reduceMod, Nat.reduceLT, Nat.reduceMul, Nat.reduceSub, Int.reduceToNat, Int.reduceNeg, Int.reduceLT, Int.reduceLE, Int.reduceEq, Nat.reduceEqDiff, Nat.reduceAdd, Nat.reduceLeDiff, reduceIte, reduceCtorEq, Nat.reduceBEq, tysA, i64, pathsD, hin, hpl, hpath, pathD]
    refine call_pure hat (by simp [refsV, refsV.go, reV_eq, i64, bV, reEl]) (by simp [refsV, refsV.go, reV_eq, i64, bV, reEl]) ?_
    simp only [vsL, vsB, vsC, appendWp, Nat.reduceShiftRight, Nat.reduceMod, Nat.reduceLT, Nat.reduceMul, Nat.reduceSub, Int.reduceToNat, Int.reduceNeg, Int.reduceLT, Int.reduceLE, Int.reduceEq, Nat.reduceEqDiff, Nat.reduceAdd, Nat.reduceLeDiff, reduceIte, reduceCtorEq, Nat.reduceBEq, tysA, i64, patV, bV, iD, bD]
    refine ⟨hs2, ⟨by omega, by simp⟩, hs8, ⟨by omega, by simp⟩, ?_⟩
    refine call_pure hown rfl rfl ?_
    simp only [vsL, vsB, vsC, appendWp, Nat.reduceShiftRight, Nat.reduceMod, Nat.reduceLT, Nat.reduceMul, Nat.reduceSub, Int.reduceToNat, Int.reduceNeg, Int.reduceLT, Int.reduceLE, Int.reduceEq, Nat.reduceEqDiff, Nat.reduceAdd, Nat.reduceLeDiff, reduceIte, reduceCtorEq, Nat.reduceBEq, tysA, i64, patV, bV, iD, bD]
    refine call_pure (around_ok by' 6 (by omega) hb) rfl rfl ?_
    simp only [vsL, vsB, vsC, appendWp, Nat.reduceShiftRight, Nat.reduceMod, Nat.reduceLT, Nat.reduceMul, Nat.reduceSub, Int.reduceToNat, Int.reduceNeg, Int.reduceLT, Int.reduceLE, Int.reduceEq, Nat.reduceEqDiff, Nat.reduceAdd, Nat.reduceLeDiff, reduceIte, reduceCtorEq, Nat.reduceBEq, tysA, i64, patV, bV, iD, bD, hb0, hb1, hidx]
    refine ⟨by omega, ?_⟩
    refine callGiveP [3, 4] hput ?_ (by simp [refsV, refsV.go, reV_eq, i64, bV, reEl]) (by simp [refsV, refsV.go, reV_eq, i64, bV, reEl]) ?_
    · exact frz3 (frz_own (ds := set.map spanC) rfl (cutL (by simp)) (by simp) (.inr rfl)) (frz_own (ds := kids.map Re.cells) rfl (cutL (by simp)) (by simp) (.inr rfl)) rfl
    simp only [vsL, vsB, vsC, appendWp, Nat.reduceShiftRight, Nat.reduceMod, Nat.reduceLT, Nat.reduceMul, Nat.reduceSub, Int.reduceToNat, Int.reduceNeg, Int.reduceLT, Int.reduceLE, Int.reduceEq, Nat.reduceEqDiff, Nat.reduceAdd, Nat.reduceLeDiff, reduceIte, reduceCtorEq, Nat.reduceBEq, tysA, i64, patV, bV, iD, bD, killO, kill1, Re.cells_eq R, List.map_cons, List.map_nil]
  · -- case 1
    rw [hk] at hown
    refine ⟨⟨(pr (.mk op (set ++ [(by', by')]) kids mn mx mode n neg)).1, caps, runes⟩, key _ _ _ (mk_small (by simp; omega) (by omega) ⟨n5, n6, n7, n8, n9⟩ (by intro s hs; rcases List.mem_append.1 hs with hs | hs; exact n10 s hs; rw [List.mem_singleton.1 hs]; exact ⟨hb, hb⟩) n2') (by simp only [Re.size]; omega) hcaps, ?_⟩
    have hput := hput (.mk op (set ++ [(by', by')]) kids mn mx mode n neg)
    rw [reV_mk] at hput
    simp only [iD, bD] at hput
    generalize pr (.mk op (set ++ [(by', by')]) kids mn mx mode n neg) = R at *
    obtain ⟨R, E⟩ := R
    refine fn_ok Try.func33 rfl Try.ntmps33 Try.results33 rfl 0 2199023259423 (by simp) (by simp) ?_
    simp only [vsL, vsB, vsC, appendWp, Nat.reduceShiftRight, Nat.reduceMod, Nat.reduceLT, Nat.reduceMul, Nat.reduceSub, Int.reduceToNat, Int.reduceNeg, Int.reduceLT, Int.reduceLE, Int.reduceEq, Nat.reduceEqDiff, Nat.reduceAdd, Nat.reduceLeDiff, reduceIte, reduceCtorEq, Nat.reduceBEq, tysA, i64, patV, Re.cells_eq re, bV, iD, bD, List.map_cons, List.map_nil]
    refine call_pure hpaths (by simp [refsV, refsV.go, reV_eq, i64, bV, reEl]) rfl ?_
    simp only [vsL, vsB, vsC, appendWp, Nat.reduceShiftRight, Nat.reduceMod, Nat.reduceLT, Nat.reduceMul, Nat.reduceSub, Int.reduceToNat, Int.reduceNeg, Int.reduceLT, Int.reduceLE, Int.reduceEq, Nat.reduceEqDiff, Nat.reduceAdd, Nat.reduceLeDiff, reduceIte, reduceCtorEq, Nat.reduceBEq, tysA, i64, pathsD, List.length_map, hpl]
    refine call_pure har (by simp [refsV, refsV.go, reV_eq, i64, bV, reEl]) (by simp [refsV, refsV.go, reV_eq, i64, bV, reEl]) ?_
    simp only [vsL, vsB, vsC, appendWp, Nat.reduceShiftRight, Nat.reduceMod, Nat.reduceLT, Nat.reduceMul, Nat.reduceSub, Int.reduceToNat, Int.reduceNeg, Int.reduceLT, Int.reduceLE, Int.reduceEq, Nat.reduceEqDiff, Nat.reduceAdd, Nat.reduceLeDiff, reduceIte, reduceCtorEq, Nat.reduceBEq, tysA, i64, pathsD, hin, hpl, hpath, pathD]
    refine call_pure hat (by simp [refsV, refsV.go, reV_eq, i64, bV, reEl]) (by simp [refsV, refsV.go, reV_eq, i64, bV, reEl]) ?_
    simp only [vsL, vsB, vsC, appendWp, Nat.reduceShiftRight, Nat.reduceMod, Nat.reduceLT, Nat.reduceMul, Nat.reduceSub, Int.reduceToNat, Int.reduceNeg, Int.reduceLT, Int.reduceLE, Int.reduceEq, Nat.reduceEqDiff, Nat.reduceAdd, Nat.reduceLeDiff, reduceIte, reduceCtorEq, Nat.reduceBEq, tysA, i64, patV, bV, iD, bD]
    refine ⟨hs2, ⟨by omega, by simp⟩, hs8, ⟨by omega, by simp⟩, ?_⟩
    refine call_pure hown rfl rfl ?_
    simp only [vsL, vsB, vsC, appendWp, Nat.reduceShiftRight, Nat.reduceMod, Nat.reduceLT, Nat.reduceMul, Nat.reduceSub, Int.reduceToNat, Int.reduceNeg, Int.reduceLT, Int.reduceLE, Int.reduceEq, Nat.reduceEqDiff, Nat.reduceAdd, Nat.reduceLeDiff, reduceIte, reduceCtorEq, Nat.reduceBEq, tysA, i64, patV, bV, iD, bD]
    refine ⟨by simp, ⟨by simp, by omega⟩, ?_⟩
    refine callGiveP [3, 4] hput ?_ (by simp [refsV, refsV.go, reV_eq, i64, bV, reEl]) (by simp [refsV, refsV.go, reV_eq, i64, bV, reEl]) ?_
    · exact frz3 (frz_own (ds := (set ++ [(by', by')]).map spanC) rfl (by rw [List.drop_zero, List.take_of_length_le (by simp), List.take_of_length_le (by simp)]; simp [spanC, iD]) (by simp) (.inr rfl)) (frz_own (ds := kids.map Re.cells) rfl (cutL (by simp)) (by simp) (.inr rfl)) rfl
    simp only [vsL, vsB, vsC, appendWp, Nat.reduceShiftRight, Nat.reduceMod, Nat.reduceLT, Nat.reduceMul, Nat.reduceSub, Int.reduceToNat, Int.reduceNeg, Int.reduceLT, Int.reduceLE, Int.reduceEq, Nat.reduceEqDiff, Nat.reduceAdd, Nat.reduceLeDiff, reduceIte, reduceCtorEq, Nat.reduceBEq, tysA, i64, patV, bV, iD, bD, killO, kill1, Re.cells_eq R, List.map_cons, List.map_nil]
  · -- case 2
    by_cases h0 : 0 < set.length
    rotate_left
    · have hpr : ¬ (0 : Int) < ((0 + set.length : Nat) : Int) := by omega
      rw [hk] at hown
      refine ⟨⟨(pr (.mk op set kids mn mx mode n neg)).1, caps, runes⟩, key _ _ _ (mk_small (by omega) (by omega) ⟨n5, n6, n7, n8, n9⟩ n10 n2') (by simp only [Re.size]; omega) hcaps, ?_⟩
      have hput := hput (.mk op set kids mn mx mode n neg)
      rw [reV_mk] at hput
      simp only [iD, bD] at hput
      generalize pr (.mk op set kids mn mx mode n neg) = R at *
      obtain ⟨R, E⟩ := R
      refine fn_ok Try.func33 rfl Try.ntmps33 Try.results33 rfl 0 2199023259423 (by simp) (by simp) ?_
      simp only [vsL, vsB, vsC, appendWp, Nat.reduceShiftRight, Nat.reduceMod, Nat.reduceLT, Nat.reduceMul, Nat.reduceSub, Int.reduceToNat, Int.reduceNeg, Int.reduceLT, Int.reduceLE, Int.reduceEq, Nat.reduceEqDiff, Nat.reduceAdd, Nat.reduceLeDiff, reduceIte, reduceCtorEq, Nat.reduceBEq, tysA, i64, patV, Re.cells_eq re, bV, iD, bD, List.map_cons, List.map_nil]
      refine call_pure hpaths (by simp [refsV, refsV.go, reV_eq, i64, bV, reEl]) rfl ?_
      simp only [vsL, vsB, vsC, appendWp, Nat.reduceShiftRight, Nat.reduceMod, Nat.reduceLT, Nat.reduceMul, Nat.reduceSub, Int.reduceToNat, Int.reduceNeg, Int.reduceLT, Int.reduceLE, Int.reduceEq, Nat.reduceEqDiff, Nat.reduceAdd, Nat.reduceLeDiff, reduceIte, reduceCtorEq, Nat.reduceBEq, tysA, i64, pathsD, List.length_map, hpl]
      refine call_pure har (by simp [refsV, refsV.go, reV_eq, i64, bV, reEl]) (by simp [refsV, refsV.go, reV_eq, i64, bV, reEl]) ?_
      simp only [vsL, vsB, vsC, appendWp, Nat.reduceShiftRight, Nat.reduceMod, Nat.reduceLT, Nat.reduceMul, Nat.reduceSub, Int.reduceToNat, Int.reduceNeg, Int.reduceLT, Int.reduceLE, Int.reduceEq, Nat.reduceEqDiff, Nat.reduceAdd, Nat.reduceLeDiff, reduceIte, reduceCtorEq, Nat.reduceBEq, tysA, i64, pathsD, hin, hpl, hpath, pathD]
      refine call_pure hat (by simp [refsV, refsV.go, reV_eq, i64, bV, reEl]) (by simp [refsV, refsV.go, reV_eq, i64, bV, reEl]) ?_
      simp only [vsL, vsB, vsC, appendWp, Nat.reduceShiftRight, Nat.reduceMod, Nat.reduceLT, Nat.reduceMul, Nat.reduceSub, Int.reduceToNat, Int.reduceNeg, Int.reduceLT, Int.reduceLE, Int.reduceEq, Nat.reduceEqDiff, Nat.reduceAdd, Nat.reduceLeDiff, reduceIte, reduceCtorEq, Nat.reduceBEq, tysA, i64, patV, bV, iD, bD]
      refine ⟨hs2, ⟨by omega, by simp⟩, hs8, ⟨by omega, by simp⟩, ?_⟩
      refine call_pure hown rfl rfl ?_
      simp only [vsL, vsB, vsC, appendWp, Nat.reduceShiftRight, Nat.reduceMod, Nat.reduceLT, Nat.reduceMul, Nat.reduceSub, Int.reduceToNat, Int.reduceNeg, Int.reduceLT, Int.reduceLE, Int.reduceEq, Nat.reduceEqDiff, Nat.reduceAdd, Nat.reduceLeDiff, reduceIte, reduceCtorEq, Nat.reduceBEq, tysA, i64, patV, bV, iD, bD, hpr]
      refine callGiveP [3, 4] hput ?_ (by simp [refsV, refsV.go, reV_eq, i64, bV, reEl]) (by simp [refsV, refsV.go, reV_eq, i64, bV, reEl]) ?_
      · exact frz3 (frz_own (ds := set.map spanC) rfl (cutL (by simp)) (by simp) (.inr rfl)) (frz_own (ds := kids.map Re.cells) rfl (cutL (by simp)) (by simp) (.inr rfl)) rfl
      simp only [vsL, vsB, vsC, appendWp, Nat.reduceShiftRight, Nat.reduceMod, Nat.reduceLT, Nat.reduceMul, Nat.reduceSub, Int.reduceToNat, Int.reduceNeg, Int.reduceLT, Int.reduceLE, Int.reduceEq, Nat.reduceEqDiff, Nat.reduceAdd, Nat.reduceLeDiff, reduceIte, reduceCtorEq, Nat.reduceBEq, tysA, i64, patV, bV, iD, bD, killO, kill1, Re.cells_eq R, List.map_cons, List.map_nil]
    · obtain ⟨s0, rest, rfl⟩ : ∃ s0 rest, set = s0 :: rest := by
        cases set with
        | nil => simp at h0
        | cons s0 rest => exact ⟨s0, rest, rfl⟩
      have hpr : (0 : Int) < ((0 + (rest.length + 1) : Nat) : Int) := by omega
      have hpe : 0 < 0 + (rest.length + 1) := by omega
      have hb0 := (around_in by' 5 (by omega) hb).1
      have hb1 := (around_in by' 5 (by omega) hb).2
      obtain ⟨v, hv, hidx⟩ := idx_lit [by', 255, 256, 1114111, 1114112] (around by' 5) hb0 hb1 (by intro x hx; simp only [List.mem_cons, List.not_mem_nil, or_false] at hx; rcases hx with rfl | rfl | rfl | rfl | rfl <;> first | exact hb | decide)
      simp only [List.map_cons, List.map_nil, iD] at hidx
      rw [hk] at hown
      refine ⟨⟨(pr (.mk op ((s0.1, v) :: rest) kids mn mx mode n neg)).1, caps, runes⟩, key _ _ _ (mk_small (by simp only [List.length_cons] at n3 ⊢; omega) (by omega) ⟨n5, n6, n7, n8, n9⟩ (by intro s hs; rcases List.mem_cons.1 hs with rfl | hs; exact ⟨(n10 s0 (by simp)).1, hv⟩; exact n10 s (by simp [hs])) n2') (by simp only [Re.size]; omega) hcaps, ?_⟩
      have hput := hput (.mk op ((s0.1, v) :: rest) kids mn mx mode n neg)
      rw [reV_mk] at hput
      simp only [iD, bD] at hput
      generalize pr (.mk op ((s0.1, v) :: rest) kids mn mx mode n neg) = R at *
      obtain ⟨R, E⟩ := R
      refine fn_ok Try.func33 rfl Try.ntmps33 Try.results33 rfl 0 2199023259423 (by simp) (by simp) ?_
      simp only [vsL, vsB, vsC, appendWp, Nat.reduceShiftRight, Nat.reduceMod, Nat.reduceLT, Nat.reduceMul, Nat.reduceSub, Int.reduceToNat, Int.reduceNeg, Int.reduceLT, Int.reduceLE, Int.reduceEq, Nat.reduceEqDiff, Nat.reduceAdd, Nat.reduceLeDiff, reduceIte, reduceCtorEq, Nat.reduceBEq, tysA, i64, patV, Re.cells_eq re, bV, iD, bD, List.map_cons, List.map_nil]
      refine call_pure hpaths (by simp [refsV, refsV.go, reV_eq, i64, bV, reEl]) rfl ?_
      simp only [vsL, vsB, vsC, appendWp, Nat.reduceShiftRight, Nat.reduceMod, Nat.reduceLT, Nat.reduceMul, Nat.reduceSub, Int.reduceToNat, Int.reduceNeg, Int.reduceLT, Int.reduceLE, Int.reduceEq, Nat.reduceEqDiff, Nat.reduceAdd, Nat.reduceLeDiff, reduceIte, reduceCtorEq, Nat.reduceBEq, tysA, i64, pathsD, List.length_map, hpl]
      refine call_pure har (by simp [refsV, refsV.go, reV_eq, i64, bV, reEl]) (by simp [refsV, refsV.go, reV_eq, i64, bV, reEl]) ?_
      simp only [vsL, vsB, vsC, appendWp, Nat.reduceShiftRight, Nat.reduceMod, Nat.reduceLT, Nat.reduceMul, Nat.reduceSub, Int.reduceToNat, Int.reduceNeg, Int.reduceLT, Int.reduceLE, Int.reduceEq, Nat.reduceEqDiff, Nat.reduceAdd, Nat.reduceLeDiff, reduceIte, reduceCtorEq, Nat.reduceBEq, tysA, i64, pathsD, hin, hpl, hpath, pathD]
      refine call_pure hat (by simp [refsV, refsV.go, reV_eq, i64, bV, reEl]) (by simp [refsV, refsV.go, reV_eq, i64, bV, reEl]) ?_
      simp only [vsL, vsB, vsC, appendWp, Nat.reduceShiftRight, Nat.reduceMod, Nat.reduceLT, Nat.reduceMul, Nat.reduceSub, Int.reduceToNat, Int.reduceNeg, Int.reduceLT, Int.reduceLE, Int.reduceEq, Nat.reduceEqDiff, Nat.reduceAdd, Nat.reduceLeDiff, reduceIte, reduceCtorEq, Nat.reduceBEq, tysA, i64, patV, bV, iD, bD]
      refine ⟨hs2, ⟨by simp only [List.length_cons] at n3 ⊢; omega, by simp⟩, hs8, ⟨by omega, by simp⟩, ?_⟩
      refine call_pure hown rfl rfl ?_
      simp only [vsL, vsB, vsC, appendWp, Nat.reduceShiftRight, Nat.reduceMod, Nat.reduceLT, Nat.reduceMul, Nat.reduceSub, Int.reduceToNat, Int.reduceNeg, Int.reduceLT, Int.reduceLE, Int.reduceEq, Nat.reduceEqDiff, Nat.reduceAdd, Nat.reduceLeDiff, reduceIte, reduceCtorEq, Nat.reduceBEq, tysA, i64, patV, bV, iD, bD, List.length_cons, hpr, List.map_cons]
      refine draw_c mix [10] [] (by rfl) ?_
      simp only [vsL, vsB, vsC, appendWp, Nat.reduceShiftRight, Nat.reduceMod, Nat.reduceLT, Nat.reduceMul, Nat.reduceSub, Int.reduceToNat, Int.reduceNeg, Int.reduceLT, Int.reduceLE, Int.reduceEq, Nat.reduceEqDiff, Nat.reduceAdd, Nat.reduceLeDiff, reduceIte, reduceCtorEq, Nat.reduceBEq, tysA, i64, patV, bV, iD, bD, List.length_cons, hpr, hpe, List.map_cons]
      refine callC_pure (around_ok by' 5 (by omega) hb) rfl rfl ?_
      simp only [vsL, vsB, vsC, appendWp, Nat.reduceShiftRight, Nat.reduceMod, Nat.reduceLT, Nat.reduceMul, Nat.reduceSub, Int.reduceToNat, Int.reduceNeg, Int.reduceLT, Int.reduceLE, Int.reduceEq, Nat.reduceEqDiff, Nat.reduceAdd, Nat.reduceLeDiff, reduceIte, reduceCtorEq, Nat.reduceBEq, tysA, i64, patV, bV, iD, bD, List.length_cons, hpr, hpe, hb0, hb1, hidx, List.map_cons, spanC]
      refine ⟨by omega, ?_⟩
      refine callGiveP [3, 4] hput ?_ (by simp [refsV, refsV.go, reV_eq, i64, bV, reEl]) (by simp [refsV, refsV.go, reV_eq, i64, bV, reEl]) ?_
      · exact frz3 (frz_own (ds := ((s0.1, v) :: rest).map spanC) rfl (by rw [List.drop_zero, List.take_of_length_le (by simp)]; simp [spanC, iD]) (by simp) (.inr rfl)) (frz_own (ds := kids.map Re.cells) rfl (cutL (by simp)) (by simp) (.inr rfl)) rfl
      simp only [vsL, vsB, vsC, appendWp, Nat.reduceShiftRight, Nat.reduceMod, Nat.reduceLT, Nat.reduceMul, Nat.reduceSub, Int.reduceToNat, Int.reduceNeg, Int.reduceLT, Int.reduceLE, Int.reduceEq, Nat.reduceEqDiff, Nat.reduceAdd, Nat.reduceLeDiff, reduceIte, reduceCtorEq, Nat.reduceBEq, tysA, i64, patV, bV, iD, bD, killO, kill1, Re.cells_eq R, List.map_cons, List.map_nil]
  · -- case 3
    rw [hk] at hown
    have hb0 := (around_in by' 4 (by omega) hb).1
    have hb1 := (around_in by' 4 (by omega) hb).2
    obtain ⟨v, hv, hidx⟩ := idx_lit [by', 32, 33, -1] (around by' 4) hb0 hb1 (by intro x hx; simp only [List.mem_cons, List.not_mem_nil, or_false] at hx; rcases hx with rfl | rfl | rfl | rfl <;> first | exact hb | decide)
    simp only [List.map_cons, List.map_nil, iD] at hidx
    refine ⟨⟨(pr (.mk op set kids v mx mode n neg)).1, caps, runes⟩, key _ _ _ (mk_small (by omega) (by omega) ⟨n5, hv, n7, n8, n9⟩ n10 n2') (by simp only [Re.size]; omega) hcaps, ?_⟩
    have hput := hput (.mk op set kids v mx mode n neg)
    rw [reV_mk] at hput
    simp only [iD, bD] at hput
    generalize pr (.mk op set kids v mx mode n neg) = R at *
    obtain ⟨R, E⟩ := R
    refine fn_ok Try.func33 rfl Try.ntmps33 Try.results33 rfl 0 2199023259423 (by simp) (by simp) ?_
    simp only [vsL, vsB, vsC, appendWp, Nat.reduceShiftRight, Nat.reduceMod, Nat.reduceLT, Nat.reduceMul, Nat.reduceSub, Int.reduceToNat, Int.reduceNeg, Int.reduceLT, Int.reduceLE, Int.reduceEq, Nat.reduceEqDiff, Nat.reduceAdd, Nat.reduceLeDiff, reduceIte, reduceCtorEq, Nat.reduceBEq, tysA, i64, patV, Re.cells_eq re, bV, iD, bD, List.map_cons, List.map_nil]
    refine call_pure hpaths (by simp [refsV, refsV.go, reV_eq, i64, bV, reEl]) rfl ?_
    simp only [vsL, vsB, vsC, appendWp, Nat.reduceShiftRight, Nat.reduceMod, Nat.reduceLT, Nat.reduceMul, Nat.reduceSub, Int.reduceToNat, Int.reduceNeg, Int.reduceLT, Int.reduceLE, Int.reduceEq, Nat.reduceEqDiff, Nat.reduceAdd, Nat.reduceLeDiff, reduceIte, reduceCtorEq, Nat.reduceBEq, tysA, i64, pathsD, List.length_map, hpl]
    refine call_pure har (by simp [refsV, refsV.go, reV_eq, i64, bV, reEl]) (by simp [refsV, refsV.go, reV_eq, i64, bV, reEl]) ?_
    simp only [vsL, vsB, vsC, appendWp, Nat.reduceShiftRight, Nat.reduceMod, Nat.reduceLT, Nat.reduceMul, Nat.reduceSub, Int.reduceToNat, Int.reduceNeg, Int.reduceLT, Int.reduceLE, Int.reduceEq, Nat.reduceEqDiff, Nat.reduceAdd, Nat.reduceLeDiff, reduceIte, reduceCtorEq, Nat.reduceBEq, tysA, i64, pathsD, hin, hpl, hpath, pathD]
    refine call_pure hat (by simp [refsV, refsV.go, reV_eq, i64, bV, reEl]) (by simp [refsV, refsV.go, reV_eq, i64, bV, reEl]) ?_
    simp only [vsL, vsB, vsC, appendWp, Nat.reduceShiftRight, Nat.reduceMod, Nat.reduceLT, Nat.reduceMul, Nat.reduceSub, Int.reduceToNat, Int.reduceNeg, Int.reduceLT, Int.reduceLE, Int.reduceEq, Nat.reduceEqDiff, Nat.reduceAdd, Nat.reduceLeDiff, reduceIte, reduceCtorEq, Nat.reduceBEq, tysA, i64, patV, bV, iD, bD]
    refine ⟨hs2, ⟨by omega, by simp⟩, hs8, ⟨by omega, by simp⟩, ?_⟩
    refine call_pure hown rfl rfl ?_
    simp only [vsL, vsB, vsC, appendWp, Nat.reduceShiftRight, Nat.reduceMod, Nat.reduceLT, Nat.reduceMul, Nat.reduceSub, Int.reduceToNat, Int.reduceNeg, Int.reduceLT, Int.reduceLE, Int.reduceEq, Nat.reduceEqDiff, Nat.reduceAdd, Nat.reduceLeDiff, reduceIte, reduceCtorEq, Nat.reduceBEq, tysA, i64, patV, bV, iD, bD]
    refine call_pure (around_ok by' 4 (by omega) hb) rfl rfl ?_
    simp only [vsL, vsB, vsC, appendWp, Nat.reduceShiftRight, Nat.reduceMod, Nat.reduceLT, Nat.reduceMul, Nat.reduceSub, Int.reduceToNat, Int.reduceNeg, Int.reduceLT, Int.reduceLE, Int.reduceEq, Nat.reduceEqDiff, Nat.reduceAdd, Nat.reduceLeDiff, reduceIte, reduceCtorEq, Nat.reduceBEq, tysA, i64, patV, bV, iD, bD, hb0, hb1, hidx]
    refine ⟨by omega, ?_⟩
    refine callGiveP [3, 4] hput ?_ (by simp [refsV, refsV.go, reV_eq, i64, bV, reEl]) (by simp [refsV, refsV.go, reV_eq, i64, bV, reEl]) ?_
    · exact frz3 (frz_own (ds := set.map spanC) rfl (cutL (by simp)) (by simp) (.inr rfl)) (frz_own (ds := kids.map Re.cells) rfl (cutL (by simp)) (by simp) (.inr rfl)) rfl
    simp only [vsL, vsB, vsC, appendWp, Nat.reduceShiftRight, Nat.reduceMod, Nat.reduceLT, Nat.reduceMul, Nat.reduceSub, Int.reduceToNat, Int.reduceNeg, Int.reduceLT, Int.reduceLE, Int.reduceEq, Nat.reduceEqDiff, Nat.reduceAdd, Nat.reduceLeDiff, reduceIte, reduceCtorEq, Nat.reduceBEq, tysA, i64, patV, bV, iD, bD, killO, kill1, Re.cells_eq R, List.map_cons, List.map_nil]
  · -- case 4
    rw [hk] at hown
    have hb0 := (around_in by' 6 (by omega) hb).1
    have hb1 := (around_in by' 6 (by omega) hb).2
    obtain ⟨v, hv, hidx⟩ := idx_lit [by', 32, 33, -1, -2, 0] (around by' 6) hb0 hb1 (by intro x hx; simp only [List.mem_cons, List.not_mem_nil, or_false] at hx; rcases hx with rfl | rfl | rfl | rfl | rfl | rfl <;> first | exact hb | decide)
    simp only [List.map_cons, List.map_nil, iD] at hidx
    refine ⟨⟨(pr (.mk op set kids mn v mode n neg)).1, caps, runes⟩, key _ _ _ (mk_small (by omega) (by omega) ⟨n5, n6, hv, n8, n9⟩ n10 n2') (by simp only [Re.size]; omega) hcaps, ?_⟩
    have hput := hput (.mk op set kids mn v mode n neg)
    rw [reV_mk] at hput
    simp only [iD, bD] at hput
    generalize pr (.mk op set kids mn v mode n neg) = R at *
    obtain ⟨R, E⟩ := R
    refine fn_ok Try.func33 rfl Try.ntmps33 Try.results33 rfl 0 2199023259423 (by simp) (by simp) ?_
    simp only [vsL, vsB, vsC, appendWp, Nat.reduceShiftRight, Nat.reduceMod, Nat.reduceLT, Nat.reduceMul, Nat.reduceSub, Int.reduceToNat, Int.reduceNeg, Int.reduceLT, Int.reduceLE, Int.reduceEq, Nat.reduceEqDiff, Nat.reduceAdd, Nat.reduceLeDiff, reduceIte, reduceCtorEq, Nat.reduceBEq, tysA, i64, patV, Re.cells_eq re, bV, iD, bD, List.map_cons, List.map_nil]
    refine call_pure hpaths (by simp [refsV, refsV.go, reV_eq, i64, bV, reEl]) rfl ?_
    simp only [vsL, vsB, vsC, appendWp, Nat.reduceShiftRight, Nat.reduceMod, Nat.reduceLT, Nat.reduceMul, Nat.reduceSub, Int.reduceToNat, Int.reduceNeg, Int.reduceLT, Int.reduceLE, Int.reduceEq, Nat.reduceEqDiff, Nat.reduceAdd, Nat.reduceLeDiff, reduceIte, reduceCtorEq, Nat.reduceBEq, tysA, i64, pathsD, List.length_map, hpl]
    refine call_pure har (by simp [refsV, refsV.go, reV_eq, i64, bV, reEl]) (by simp [refsV, refsV.go, reV_eq, i64, bV, reEl]) ?_
    simp only [vsL, vsB, vsC, appendWp, Nat.reduceShiftRight, Nat.reduceMod, Nat.reduceLT, Nat.reduceMul, Nat.reduceSub, Int.reduceToNat, Int.reduceNeg, Int.reduceLT, Int.reduceLE, Int.reduceEq, Nat.reduceEqDiff, Nat.reduceAdd, Nat.reduceLeDiff, reduceIte, reduceCtorEq, Nat.reduceBEq, tysA, i64, pathsD, hin, hpl, hpath, pathD]
    refine call_pure hat (by simp [refsV, refsV.go, reV_eq, i64, bV, reEl]) (by simp [refsV, refsV.go, reV_eq, i64, bV, reEl]) ?_
    simp only [vsL, vsB, vsC, appendWp, Nat.reduceShiftRight, Nat.reduceMod, Nat.reduceLT, Nat.reduceMul, Nat.reduceSub, Int.reduceToNat, Int.reduceNeg, Int.reduceLT, Int.reduceLE, Int.reduceEq, Nat.reduceEqDiff, Nat.reduceAdd, Nat.reduceLeDiff, reduceIte, reduceCtorEq, Nat.reduceBEq, tysA, i64, patV, bV, iD, bD]
    refine ⟨hs2, ⟨by omega, by simp⟩, hs8, ⟨by omega, by simp⟩, ?_⟩
    refine call_pure hown rfl rfl ?_
    simp only [vsL, vsB, vsC, appendWp, Nat.reduceShiftRight, Nat.reduceMod, Nat.reduceLT, Nat.reduceMul, Nat.reduceSub, Int.reduceToNat, Int.reduceNeg, Int.reduceLT, Int.reduceLE, Int.reduceEq, Nat.reduceEqDiff, Nat.reduceAdd, Nat.reduceLeDiff, reduceIte, reduceCtorEq, Nat.reduceBEq, tysA, i64, patV, bV, iD, bD]
    refine call_pure (around_ok by' 6 (by omega) hb) rfl rfl ?_
    simp only [vsL, vsB, vsC, appendWp, Nat.reduceShiftRight, Nat.reduceMod, Nat.reduceLT, Nat.reduceMul, Nat.reduceSub, Int.reduceToNat, Int.reduceNeg, Int.reduceLT, Int.reduceLE, Int.reduceEq, Nat.reduceEqDiff, Nat.reduceAdd, Nat.reduceLeDiff, reduceIte, reduceCtorEq, Nat.reduceBEq, tysA, i64, patV, bV, iD, bD, hb0, hb1, hidx]
    refine ⟨by omega, ?_⟩
    refine callGiveP [3, 4] hput ?_ (by simp [refsV, refsV.go, reV_eq, i64, bV, reEl]) (by simp [refsV, refsV.go, reV_eq, i64, bV, reEl]) ?_
    · exact frz3 (frz_own (ds := set.map spanC) rfl (cutL (by simp)) (by simp) (.inr rfl)) (frz_own (ds := kids.map Re.cells) rfl (cutL (by simp)) (by simp) (.inr rfl)) rfl
    simp only [vsL, vsB, vsC, appendWp, Nat.reduceShiftRight, Nat.reduceMod, Nat.reduceLT, Nat.reduceMul, Nat.reduceSub, Int.reduceToNat, Int.reduceNeg, Int.reduceLT, Int.reduceLE, Int.reduceEq, Nat.reduceEqDiff, Nat.reduceAdd, Nat.reduceLeDiff, reduceIte, reduceCtorEq, Nat.reduceBEq, tysA, i64, patV, bV, iD, bD, killO, kill1, Re.cells_eq R, List.map_cons, List.map_nil]
  · -- case 5
    rw [hk] at hown
    have hb0 := (around_in by' 4 (by omega) hb).1
    have hb1 := (around_in by' 4 (by omega) hb).2
    obtain ⟨v, hv, hidx⟩ := idx_lit [by', 2, 3, -1] (around by' 4) hb0 hb1 (by intro x hx; simp only [List.mem_cons, List.not_mem_nil, or_false] at hx; rcases hx with rfl | rfl | rfl | rfl <;> first | exact hb | decide)
    simp only [List.map_cons, List.map_nil, iD] at hidx
    refine ⟨⟨(pr (.mk op set kids mn mx v n neg)).1, caps, runes⟩, key _ _ _ (mk_small (by omega) (by omega) ⟨n5, n6, n7, hv, n9⟩ n10 n2') (by simp only [Re.size]; omega) hcaps, ?_⟩
    have hput := hput (.mk op set kids mn mx v n neg)
    rw [reV_mk] at hput
    simp only [iD, bD] at hput
    generalize pr (.mk op set kids mn mx v n neg) = R at *
    obtain ⟨R, E⟩ := R
    refine fn_ok Try.func33 rfl Try.ntmps33 Try.results33 rfl 0 2199023259423 (by simp) (by simp) ?_
    simp only [vsL, vsB, vsC, appendWp, Nat.reduceShiftRight, Nat.reduceMod, Nat.reduceLT, Nat.reduceMul, Nat.reduceSub, Int.reduceToNat, Int.reduceNeg, Int.reduceLT, Int.reduceLE, Int.reduceEq, Nat.reduceEqDiff, Nat.reduceAdd, Nat.reduceLeDiff, reduceIte, reduceCtorEq, Nat.reduceBEq, tysA, i64, patV, Re.cells_eq re, bV, iD, bD, List.map_cons, List.map_nil]
    refine call_pure hpaths (by simp [refsV, refsV.go, reV_eq, i64, bV, reEl]) rfl ?_
    simp only [vsL, vsB, vsC, appendWp, Nat.reduceShiftRight, Nat.reduceMod, Nat.reduceLT, Nat.reduceMul, Nat.reduceSub, Int.reduceToNat, Int.reduceNeg, Int.reduceLT, Int.reduceLE, Int.reduceEq, Nat.reduceEqDiff, Nat.reduceAdd, Nat.reduceLeDiff, reduceIte, reduceCtorEq, Nat.reduceBEq, tysA, i64, pathsD, List.length_map, hpl]
    refine call_pure har (by simp [refsV, refsV.go, reV_eq, i64, bV, reEl]) (by simp [refsV, refsV.go, reV_eq, i64, bV, reEl]) ?_
    simp only [vsL, vsB, vsC, appendWp, Nat.reduceShiftRight, Nat.reduceMod, Nat.reduceLT, Nat.reduceMul, Nat.reduceSub, Int.reduceToNat, Int.reduceNeg, Int.reduceLT, Int.reduceLE, Int.reduceEq, Nat.reduceEqDiff, Nat.reduceAdd, Nat.reduceLeDiff, reduceIte, reduceCtorEq, Nat.reduceBEq, tysA, i64, pathsD, hin, hpl, hpath, pathD]
    refine call_pure hat (by simp [refsV, refsV.go, reV_eq, i64, bV, reEl]) (by simp [refsV, refsV.go, reV_eq, i64, bV, reEl]) ?_
    simp only [vsL, vsB, vsC, appendWp, Nat.reduceShiftRight, Nat.reduceMod, Nat.reduceLT, Nat.reduceMul, Nat.reduceSub, Int.reduceToNat, Int.reduceNeg, Int.reduceLT, Int.reduceLE, Int.reduceEq, Nat.reduceEqDiff, Nat.reduceAdd, Nat.reduceLeDiff, reduceIte, reduceCtorEq, Nat.reduceBEq, tysA, i64, patV, bV, iD, bD]
    refine ⟨hs2, ⟨by omega, by simp⟩, hs8, ⟨by omega, by simp⟩, ?_⟩
    refine call_pure hown rfl rfl ?_
    simp only [vsL, vsB, vsC, appendWp, Nat.reduceShiftRight, Nat.reduceMod, Nat.reduceLT, Nat.reduceMul, Nat.reduceSub, Int.reduceToNat, Int.reduceNeg, Int.reduceLT, Int.reduceLE, Int.reduceEq, Nat.reduceEqDiff, Nat.reduceAdd, Nat.reduceLeDiff, reduceIte, reduceCtorEq, Nat.reduceBEq, tysA, i64, patV, bV, iD, bD]
    refine call_pure (around_ok by' 4 (by omega) hb) rfl rfl ?_
    simp only [vsL, vsB, vsC, appendWp, Nat.reduceShiftRight, Nat.reduceMod, Nat.reduceLT, Nat.reduceMul, Nat.reduceSub, Int.reduceToNat, Int.reduceNeg, Int.reduceLT, Int.reduceLE, Int.reduceEq, Nat.reduceEqDiff, Nat.reduceAdd, Nat.reduceLeDiff, reduceIte, reduceCtorEq, Nat.reduceBEq, tysA, i64, patV, bV, iD, bD, hb0, hb1, hidx]
    refine ⟨by omega, ?_⟩
    refine callGiveP [3, 4] hput ?_ (by simp [refsV, refsV.go, reV_eq, i64, bV, reEl]) (by simp [refsV, refsV.go, reV_eq, i64, bV, reEl]) ?_
    · exact frz3 (frz_own (ds := set.map spanC) rfl (cutL (by simp)) (by simp) (.inr rfl)) (frz_own (ds := kids.map Re.cells) rfl (cutL (by simp)) (by simp) (.inr rfl)) rfl
    simp only [vsL, vsB, vsC, appendWp, Nat.reduceShiftRight, Nat.reduceMod, Nat.reduceLT, Nat.reduceMul, Nat.reduceSub, Int.reduceToNat, Int.reduceNeg, Int.reduceLT, Int.reduceLE, Int.reduceEq, Nat.reduceEqDiff, Nat.reduceAdd, Nat.reduceLeDiff, reduceIte, reduceCtorEq, Nat.reduceBEq, tysA, i64, patV, bV, iD, bD, killO, kill1, Re.cells_eq R, List.map_cons, List.map_nil]
  · -- case 6
    rw [hk] at hown
    have hb0 := (around_in by' 5 (by omega) hb).1
    have hb1 := (around_in by' 5 (by omega) hb).2
    obtain ⟨v, hv, hidx⟩ := idx_lit [by', 0, 1, 5, 6] (around by' 5) hb0 hb1 (by intro x hx; simp only [List.mem_cons, List.not_mem_nil, or_false] at hx; rcases hx with rfl | rfl | rfl | rfl | rfl <;> first | exact hb | decide)
    simp only [List.map_cons, List.map_nil, iD] at hidx
    refine ⟨⟨(pr (.mk op set kids mn mx mode v neg)).1, caps, runes⟩, key _ _ _ (mk_small (by omega) (by omega) ⟨n5, n6, n7, n8, hv⟩ n10 n2') (by simp only [Re.size]; omega) hcaps, ?_⟩
    have hput := hput (.mk op set kids mn mx mode v neg)
    rw [reV_mk] at hput
    simp only [iD, bD] at hput
    generalize pr (.mk op set kids mn mx mode v neg) = R at *
    obtain ⟨R, E⟩ := R
    refine fn_ok Try.func33 rfl Try.ntmps33 Try.results33 rfl 0 2199023259423 (by simp) (by simp) ?_
    simp only [vsL, vsB, vsC, appendWp, Nat.reduceShiftRight, Nat.reduceMod, Nat.reduceLT, Nat.reduceMul, Nat.reduceSub, Int.reduceToNat, Int.reduceNeg, Int.reduceLT, Int.reduceLE, Int.reduceEq, Nat.reduceEqDiff, Nat.reduceAdd, Nat.reduceLeDiff, reduceIte, reduceCtorEq, Nat.reduceBEq, tysA, i64, patV, Re.cells_eq re, bV, iD, bD, List.map_cons, List.map_nil]
    refine call_pure hpaths (by simp [refsV, refsV.go, reV_eq, i64, bV, reEl]) rfl ?_
    simp only [vsL, vsB, vsC, appendWp, Nat.reduceShiftRight, Nat.reduceMod, Nat.reduceLT, Nat.reduceMul, Nat.reduceSub, Int.reduceToNat, Int.reduceNeg, Int.reduceLT, Int.reduceLE, Int.reduceEq, Nat.reduceEqDiff, Nat.reduceAdd, Nat.reduceLeDiff, reduceIte, reduceCtorEq, Nat.reduceBEq, tysA, i64, pathsD, List.length_map, hpl]
    refine call_pure har (by simp [refsV, refsV.go, reV_eq, i64, bV, reEl]) (by simp [refsV, refsV.go, reV_eq, i64, bV, reEl]) ?_
    simp only [vsL, vsB, vsC, appendWp, Nat.reduceShiftRight, Nat.reduceMod, Nat.reduceLT, Nat.reduceMul, Nat.reduceSub, Int.reduceToNat, Int.reduceNeg, Int.reduceLT, Int.reduceLE, Int.reduceEq, Nat.reduceEqDiff, Nat.reduceAdd, Nat.reduceLeDiff, reduceIte, reduceCtorEq, Nat.reduceBEq, tysA, i64, pathsD, hin, hpl, hpath, pathD]
    refine call_pure hat (by simp [refsV, refsV.go, reV_eq, i64, bV, reEl]) (by simp [refsV, refsV.go, reV_eq, i64, bV, reEl]) ?_
    simp only [vsL, vsB, vsC, appendWp, Nat.reduceShiftRight, Nat.reduceMod, Nat.reduceLT, Nat.reduceMul, Nat.reduceSub, Int.reduceToNat, Int.reduceNeg, Int.reduceLT, Int.reduceLE, Int.reduceEq, Nat.reduceEqDiff, Nat.reduceAdd, Nat.reduceLeDiff, reduceIte, reduceCtorEq, Nat.reduceBEq, tysA, i64, patV, bV, iD, bD]
    refine ⟨hs2, ⟨by omega, by simp⟩, hs8, ⟨by omega, by simp⟩, ?_⟩
    refine call_pure hown rfl rfl ?_
    simp only [vsL, vsB, vsC, appendWp, Nat.reduceShiftRight, Nat.reduceMod, Nat.reduceLT, Nat.reduceMul, Nat.reduceSub, Int.reduceToNat, Int.reduceNeg, Int.reduceLT, Int.reduceLE, Int.reduceEq, Nat.reduceEqDiff, Nat.reduceAdd, Nat.reduceLeDiff, reduceIte, reduceCtorEq, Nat.reduceBEq, tysA, i64, patV, bV, iD, bD]
    refine call_pure (around_ok by' 5 (by omega) hb) rfl rfl ?_
    simp only [vsL, vsB, vsC, appendWp, Nat.reduceShiftRight, Nat.reduceMod, Nat.reduceLT, Nat.reduceMul, Nat.reduceSub, Int.reduceToNat, Int.reduceNeg, Int.reduceLT, Int.reduceLE, Int.reduceEq, Nat.reduceEqDiff, Nat.reduceAdd, Nat.reduceLeDiff, reduceIte, reduceCtorEq, Nat.reduceBEq, tysA, i64, patV, bV, iD, bD, hb0, hb1, hidx]
    refine ⟨by omega, ?_⟩
    refine callGiveP [3, 4] hput ?_ (by simp [refsV, refsV.go, reV_eq, i64, bV, reEl]) (by simp [refsV, refsV.go, reV_eq, i64, bV, reEl]) ?_
    · exact frz3 (frz_own (ds := set.map spanC) rfl (cutL (by simp)) (by simp) (.inr rfl)) (frz_own (ds := kids.map Re.cells) rfl (cutL (by simp)) (by simp) (.inr rfl)) rfl
    simp only [vsL, vsB, vsC, appendWp, Nat.reduceShiftRight, Nat.reduceMod, Nat.reduceLT, Nat.reduceMul, Nat.reduceSub, Int.reduceToNat, Int.reduceNeg, Int.reduceLT, Int.reduceLE, Int.reduceEq, Nat.reduceEqDiff, Nat.reduceAdd, Nat.reduceLeDiff, reduceIte, reduceCtorEq, Nat.reduceBEq, tysA, i64, patV, bV, iD, bD, killO, kill1, Re.cells_eq R, List.map_cons, List.map_nil]
  · -- case 7
    rw [hk] at hown
    refine ⟨⟨(pr (.mk op set kids mn mx mode n (!neg))).1, caps, runes⟩, key _ _ _ (mk_small (by omega) (by omega) ⟨n5, n6, n7, n8, n9⟩ n10 n2') (by simp only [Re.size]; omega) hcaps, ?_⟩
    have hput := hput (.mk op set kids mn mx mode n (!neg))
    rw [reV_mk] at hput
    simp only [iD, bD] at hput
    generalize pr (.mk op set kids mn mx mode n (!neg)) = R at *
    obtain ⟨R, E⟩ := R
    refine fn_ok Try.func33 rfl Try.ntmps33 Try.results33 rfl 0 2199023259423 (by simp) (by simp) ?_
    simp only [vsL, vsB, vsC, appendWp, Nat.reduceShiftRight, Nat.reduceMod, Nat.reduceLT, Nat.reduceMul, Nat.reduceSub, Int.reduceToNat, Int.reduceNeg, Int.reduceLT, Int.reduceLE, Int.reduceEq, Nat.reduceEqDiff, Nat.reduceAdd, Nat.reduceLeDiff, reduceIte, reduceCtorEq, Nat.reduceBEq, tysA, i64, patV, Re.cells_eq re, bV, iD, bD, List.map_cons, List.map_nil]
    refine call_pure hpaths (by simp [refsV, refsV.go, reV_eq, i64, bV, reEl]) rfl ?_
    simp only [vsL, vsB, vsC, appendWp, Nat.reduceShiftRight, Nat.reduceMod, Nat.reduceLT, Nat.reduceMul, Nat.reduceSub, Int.reduceToNat, Int.reduceNeg, Int.reduceLT, Int.reduceLE, Int.reduceEq, Nat.reduceEqDiff, Nat.reduceAdd, Nat.reduceLeDiff, reduceIte, reduceCtorEq, Nat.reduceBEq, tysA, i64, pathsD, List.length_map, hpl]
    refine call_pure har (by simp [refsV, refsV.go, reV_eq, i64, bV, reEl]) (by simp [refsV, refsV.go, reV_eq, i64, bV, reEl]) ?_
    simp only [vsL, vsB, vsC, appendWp, Nat.reduceShiftRight, Nat.reduceMod, Nat.reduceLT, Nat.reduceMul, Nat.reduceSub, Int.reduceToNat, Int.reduceNeg, Int.reduceLT, Int.reduceLE, Int.reduceEq, Nat.reduceEqDiff, Nat.reduceAdd, Nat.reduceLeDiff, reduceIte, reduceCtorEq, Nat.reduceBEq, tysA, i64, pathsD, hin, hpl, hpath, pathD]
    refine call_pure hat (by simp [refsV, refsV.go, reV_eq, i64, bV, reEl]) (by simp [refsV, refsV.go, reV_eq, i64, bV, reEl]) ?_
    simp only [vsL, vsB, vsC, appendWp, Nat.reduceShiftRight, Nat.reduceMod, Nat.reduceLT, Nat.reduceMul, Nat.reduceSub, Int.reduceToNat, Int.reduceNeg, Int.reduceLT, Int.reduceLE, Int.reduceEq, Nat.reduceEqDiff, Nat.reduceAdd, Nat.reduceLeDiff, reduceIte, reduceCtorEq, Nat.reduceBEq, tysA, i64, patV, bV, iD, bD]
    refine ⟨hs2, ⟨by omega, by simp⟩, hs8, ⟨by omega, by simp⟩, ?_⟩
    refine call_pure hown rfl rfl ?_
    simp only [vsL, vsB, vsC, appendWp, Nat.reduceShiftRight, Nat.reduceMod, Nat.reduceLT, Nat.reduceMul, Nat.reduceSub, Int.reduceToNat, Int.reduceNeg, Int.reduceLT, Int.reduceLE, Int.reduceEq, Nat.reduceEqDiff, Nat.reduceAdd, Nat.reduceLeDiff, reduceIte, reduceCtorEq, Nat.reduceBEq, tysA, i64, patV, bV, iD, bD]
    refine callGiveP [3, 4] hput ?_ (by simp [refsV, refsV.go, reV_eq, i64, bV, reEl]) (by simp [refsV, refsV.go, reV_eq, i64, bV, reEl]) ?_
    · exact frz3 (frz_own (ds := set.map spanC) rfl (cutL (by simp)) (by simp) (.inr rfl)) (frz_own (ds := kids.map Re.cells) rfl (cutL (by simp)) (by simp) (.inr rfl)) rfl
    simp only [vsL, vsB, vsC, appendWp, Nat.reduceShiftRight, Nat.reduceMod, Nat.reduceLT, Nat.reduceMul, Nat.reduceSub, Int.reduceToNat, Int.reduceNeg, Int.reduceLT, Int.reduceLE, Int.reduceEq, Nat.reduceEqDiff, Nat.reduceAdd, Nat.reduceLeDiff, reduceIte, reduceCtorEq, Nat.reduceBEq, tysA, i64, patV, bV, iD, bD, killO, kill1, Re.cells_eq R, List.map_cons, List.map_nil]
  · -- case 8
    rw [hk] at hown
    refine ⟨⟨(pr (.mk op set (kids ++ [zeroRe]) mn mx mode n neg)).1, caps, runes⟩, key _ _ _ (mk_small (by omega) (by simp; omega) ⟨n5, n6, n7, n8, n9⟩ n10 (by intro k hk; rcases List.mem_append.1 hk with hk | hk; exact n2' k hk; rw [List.mem_singleton.1 hk]; exact zero_every _)) (by simp only [Re.size, Re.sizeL_append, Re.sizeL, zeroRe]; omega) hcaps, ?_⟩
    have hput := hput (.mk op set (kids ++ [zeroRe]) mn mx mode n neg)
    rw [reV_mk] at hput
    simp only [iD, bD] at hput
    generalize pr (.mk op set (kids ++ [zeroRe]) mn mx mode n neg) = R at *
    obtain ⟨R, E⟩ := R
    refine fn_ok Try.func33 rfl Try.ntmps33 Try.results33 rfl 0 2199023259423 (by simp) (by simp) ?_
    simp only [vsL, vsB, vsC, appendWp, Nat.reduceShiftRight, Nat.reduceMod, Nat.reduceLT, Nat.reduceMul, Nat.reduceSub, Int.reduceToNat, Int.reduceNeg, Int.reduceLT, Int.reduceLE, Int.reduceEq, Nat.reduceEqDiff, Nat.reduceAdd, Nat.reduceLeDiff, reduceIte, reduceCtorEq, Nat.reduceBEq, tysA, i64, patV, Re.cells_eq re, bV, iD, bD, List.map_cons, List.map_nil]
    refine call_pure hpaths (by simp [refsV, refsV.go, reV_eq, i64, bV, reEl]) rfl ?_
    simp only [vsL, vsB, vsC, appendWp, Nat.reduceShiftRight, Nat.reduceMod, Nat.reduceLT, Nat.reduceMul, Nat.reduceSub, Int.reduceToNat, Int.reduceNeg, Int.reduceLT, Int.reduceLE, Int.reduceEq, Nat.reduceEqDiff, Nat.reduceAdd, Nat.reduceLeDiff, reduceIte, reduceCtorEq, Nat.reduceBEq, tysA, i64, pathsD, List.length_map, hpl]
    refine call_pure har (by simp [refsV, refsV.go, reV_eq, i64, bV, reEl]) (by simp [refsV, refsV.go, reV_eq, i64, bV, reEl]) ?_
    simp only [vsL, vsB, vsC, appendWp, Nat.reduceShiftRight, Nat.reduceMod, Nat.reduceLT, Nat.reduceMul, Nat.reduceSub, Int.reduceToNat, Int.reduceNeg, Int.reduceLT, Int.reduceLE, Int.reduceEq, Nat.reduceEqDiff, Nat.reduceAdd, Nat.reduceLeDiff, reduceIte, reduceCtorEq, Nat.reduceBEq, tysA, i64, pathsD, hin, hpl, hpath, pathD]
    refine call_pure hat (by simp [refsV, refsV.go, reV_eq, i64, bV, reEl]) (by simp [refsV, refsV.go, reV_eq, i64, bV, reEl]) ?_
    simp only [vsL, vsB, vsC, appendWp, Nat.reduceShiftRight, Nat.reduceMod, Nat.reduceLT, Nat.reduceMul, Nat.reduceSub, Int.reduceToNat, Int.reduceNeg, Int.reduceLT, Int.reduceLE, Int.reduceEq, Nat.reduceEqDiff, Nat.reduceAdd, Nat.reduceLeDiff, reduceIte, reduceCtorEq, Nat.reduceBEq, tysA, i64, patV, bV, iD, bD]
    refine ⟨hs2, ⟨by omega, by simp⟩, hs8, ⟨by omega, by simp⟩, ?_⟩
    refine call_pure hown rfl rfl ?_
    simp only [vsL, vsB, vsC, appendWp, Nat.reduceShiftRight, Nat.reduceMod, Nat.reduceLT, Nat.reduceMul, Nat.reduceSub, Int.reduceToNat, Int.reduceNeg, Int.reduceLT, Int.reduceLE, Int.reduceEq, Nat.reduceEqDiff, Nat.reduceAdd, Nat.reduceLeDiff, reduceIte, reduceCtorEq, Nat.reduceBEq, tysA, i64, patV, bV, iD, bD]
    refine ⟨by simp, ⟨by simp, by omega⟩, ?_⟩
    refine callGiveP [3, 4] hput ?_ (by simp [refsV, refsV.go, reV_eq, i64, bV, reEl]) (by simp [refsV, refsV.go, reV_eq, i64, bV, reEl]) ?_
    · exact frz3 (frz_own (ds := set.map spanC) rfl (cutL (by simp)) (by simp) (.inr rfl)) (frz_own (ds := (kids ++ [zeroRe]).map Re.cells) rfl (by rw [List.drop_zero, List.take_of_length_le (by simp), List.take_of_length_le (by simp)]; simp [zeroRe, Re.cells, Re.cellsL, iD, bD]) (by simp) (.inr rfl)) rfl
    simp only [vsL, vsB, vsC, appendWp, Nat.reduceShiftRight, Nat.reduceMod, Nat.reduceLT, Nat.reduceMul, Nat.reduceSub, Int.reduceToNat, Int.reduceNeg, Int.reduceLT, Int.reduceLE, Int.reduceEq, Nat.reduceEqDiff, Nat.reduceAdd, Nat.reduceLeDiff, reduceIte, reduceCtorEq, Nat.reduceBEq, tysA, i64, patV, bV, iD, bD, killO, kill1, Re.cells_eq R, List.map_cons, List.map_nil]
  · -- case 9
    by_cases h0 : 0 < kids.length
    rotate_left
    · have hpr : ¬ (0 : Int) < ((0 + kids.length : Nat) : Int) := by omega
      rw [hk] at hown
      refine ⟨⟨(pr (.mk op set kids mn mx mode n neg)).1, caps, runes⟩, key _ _ _ (mk_small (by omega) (by omega) ⟨n5, n6, n7, n8, n9⟩ n10 n2') (by simp only [Re.size]; omega) hcaps, ?_⟩
      have hput := hput (.mk op set kids mn mx mode n neg)
      rw [reV_mk] at hput
      simp only [iD, bD] at hput
      generalize pr (.mk op set kids mn mx mode n neg) = R at *
      obtain ⟨R, E⟩ := R
      refine fn_ok Try.func33 rfl Try.ntmps33 Try.results33 rfl 0 2199023259423 (by simp) (by simp) ?_
      simp only [vsL, vsB, vsC, appendWp, Nat.reduceShiftRight, Nat.reduceMod, Nat.reduceLT, Nat.reduceMul, Nat.reduceSub, Int.reduceToNat, Int.reduceNeg, Int.reduceLT, Int.reduceLE, Int.reduceEq, Nat.reduceEqDiff, Nat.reduceAdd, Nat.reduceLeDiff, reduceIte, reduceCtorEq, Nat.reduceBEq, tysA, i64, patV, Re.cells_eq re, bV, iD, bD, List.map_cons, List.map_nil]
      refine call_pure hpaths (by simp [refsV, refsV.go, reV_eq, i64, bV, reEl]) rfl ?_
      simp only [vsL, vsB, vsC, appendWp, Nat.reduceShiftRight, Nat.reduceMod, Nat.reduceLT, Nat.reduceMul, Nat.reduceSub, Int.reduceToNat, Int.reduceNeg, Int.reduceLT, Int.reduceLE, Int.reduceEq, Nat.reduceEqDiff, Nat.reduceAdd, Nat.reduceLeDiff, reduceIte, reduceCtorEq, Nat.reduceBEq, tysA, i64, pathsD, List.length_map, hpl]
      refine call_pure har (by simp [refsV, refsV.go, reV_eq, i64, bV, reEl]) (by simp [refsV, refsV.go, reV_eq, i64, bV, reEl]) ?_
      simp only [vsL, vsB, vsC, appendWp, Nat.reduceShiftRight, Nat.reduceMod, Nat.reduceLT, Nat.reduceMul, Nat.reduceSub, Int.reduceToNat, Int.reduceNeg, Int.reduceLT, Int.reduceLE, Int.reduceEq, Nat.reduceEqDiff, Nat.reduceAdd, Nat.reduceLeDiff, reduceIte, reduceCtorEq, Nat.reduceBEq, tysA, i64, pathsD, hin, hpl, hpath, pathD]
      refine call_pure hat (by simp [refsV, refsV.go, reV_eq, i64, bV, reEl]) (by simp [refsV, refsV.go, reV_eq, i64, bV, reEl]) ?_
      simp only [vsL, vsB, vsC, appendWp, Nat.reduceShiftRight, Nat.reduceMod, Nat.reduceLT, Nat.reduceMul, Nat.reduceSub, Int.reduceToNat, Int.reduceNeg, Int.reduceLT, Int.reduceLE, Int.reduceEq, Nat.reduceEqDiff, Nat.reduceAdd, Nat.reduceLeDiff, reduceIte, reduceCtorEq, Nat.reduceBEq, tysA, i64, patV, bV, iD, bD]
      refine ⟨hs2, ⟨by omega, by simp⟩, hs8, ⟨by omega, by simp⟩, ?_⟩
      refine call_pure hown rfl rfl ?_
      simp only [vsL, vsB, vsC, appendWp, Nat.reduceShiftRight, Nat.reduceMod, Nat.reduceLT, Nat.reduceMul, Nat.reduceSub, Int.reduceToNat, Int.reduceNeg, Int.reduceLT, Int.reduceLE, Int.reduceEq, Nat.reduceEqDiff, Nat.reduceAdd, Nat.reduceLeDiff, reduceIte, reduceCtorEq, Nat.reduceBEq, tysA, i64, patV, bV, iD, bD, hpr]
      refine callGiveP [3, 4] hput ?_ (by simp [refsV, refsV.go, reV_eq, i64, bV, reEl]) (by simp [refsV, refsV.go, reV_eq, i64, bV, reEl]) ?_
      · exact frz3 (frz_own (ds := set.map spanC) rfl (cutL (by simp)) (by simp) (.inr rfl)) (frz_own (ds := kids.map Re.cells) rfl (cutL (by simp)) (by simp) (.inr rfl)) rfl
      simp only [vsL, vsB, vsC, appendWp, Nat.reduceShiftRight, Nat.reduceMod, Nat.reduceLT, Nat.reduceMul, Nat.reduceSub, Int.reduceToNat, Int.reduceNeg, Int.reduceLT, Int.reduceLE, Int.reduceEq, Nat.reduceEqDiff, Nat.reduceAdd, Nat.reduceLeDiff, reduceIte, reduceCtorEq, Nat.reduceBEq, tysA, i64, patV, bV, iD, bD, killO, kill1, Re.cells_eq R, List.map_cons, List.map_nil]
    · have hpr : (0 : Int) < ((0 + kids.length : Nat) : Int) := by omega
      have hsd := Re.sizeL_drop kids
      have hle : 0 + (0 + kids.length) ≤ kids.length := by omega
      rw [hk] at hown
      refine ⟨⟨(pr (.mk op set (kids.drop 1) mn mx mode n neg)).1, caps, runes⟩, key _ _ _ (mk_small (by omega) (by simp; omega) ⟨n5, n6, n7, n8, n9⟩ n10 (fun k hk => n2' k (List.mem_of_mem_drop hk))) (by simp only [Re.size]; omega) hcaps, ?_⟩
      have hput := hput (.mk op set (kids.drop 1) mn mx mode n neg)
      rw [reV_mk] at hput
      simp only [iD, bD] at hput
      generalize pr (.mk op set (kids.drop 1) mn mx mode n neg) = R at *
      obtain ⟨R, E⟩ := R
      refine fn_ok Try.func33 rfl Try.ntmps33 Try.results33 rfl 0 2199023259423 (by simp) (by simp) ?_
      simp only [vsL, vsB, vsC, appendWp, Nat.reduceShiftRight, Nat.reduceMod, Nat.reduceLT, Nat.reduceMul, Nat.reduceSub, Int.reduceToNat, Int.reduceNeg, Int.reduceLT, Int.reduceLE, Int.reduceEq, Nat.reduceEqDiff, Nat.reduceAdd, Nat.reduceLeDiff, reduceIte, reduceCtorEq, Nat.reduceBEq, tysA, i64, patV, Re.cells_eq re, bV, iD, bD, List.map_cons, List.map_nil]
      refine call_pure hpaths (by simp [refsV, refsV.go, reV_eq, i64, bV, reEl]) rfl ?_
      simp only [vsL, vsB, vsC, appendWp, Nat.reduceShiftRight, Nat.reduceMod, Nat.reduceLT, Nat.reduceMul, Nat.reduceSub, Int.reduceToNat, Int.reduceNeg, Int.reduceLT, Int.reduceLE, Int.reduceEq, Nat.reduceEqDiff, Nat.reduceAdd, Nat.reduceLeDiff, reduceIte, reduceCtorEq, Nat.reduceBEq, tysA, i64, pathsD, List.length_map, hpl]
      refine call_pure har (by simp [refsV, refsV.go, reV_eq, i64, bV, reEl]) (by simp [refsV, refsV.go, reV_eq, i64, bV, reEl]) ?_
      simp only [vsL, vsB, vsC, appendWp, Nat.reduceShiftRight, Nat.reduceMod, Nat.reduceLT, Nat.reduceMul, Nat.reduceSub, Int.reduceToNat, Int.reduceNeg, Int.reduceLT, Int.reduceLE, Int.reduceEq, Nat.reduceEqDiff, Nat.reduceAdd, Nat.reduceLeDiff, reduceIte, reduceCtorEq, Nat.reduceBEq, tysA, i64, pathsD, hin, hpl, hpath, pathD]
      refine call_pure hat (by simp [refsV, refsV.go, reV_eq, i64, bV, reEl]) (by simp [refsV, refsV.go, reV_eq, i64, bV, reEl]) ?_
      simp only [vsL, vsB, vsC, appendWp, Nat.reduceShiftRight, Nat.reduceMod, Nat.reduceLT, Nat.reduceMul, Nat.reduceSub, Int.reduceToNat, Int.reduceNeg, Int.reduceLT, Int.reduceLE, Int.reduceEq, Nat.reduceEqDiff, Nat.reduceAdd, Nat.reduceLeDiff, reduceIte, reduceCtorEq, Nat.reduceBEq, tysA, i64, patV, bV, iD, bD]
      refine ⟨hs2, ⟨by omega, by simp⟩, hs8, ⟨by omega, by simp⟩, ?_⟩
      refine call_pure hown rfl rfl ?_
      simp only [vsL, vsB, vsC, appendWp, Nat.reduceShiftRight, Nat.reduceMod, Nat.reduceLT, Nat.reduceMul, Nat.reduceSub, Int.reduceToNat, Int.reduceNeg, Int.reduceLT, Int.reduceLE, Int.reduceEq, Nat.reduceEqDiff, Nat.reduceAdd, Nat.reduceLeDiff, reduceIte, reduceCtorEq, Nat.reduceBEq, tysA, i64, patV, bV, iD, bD, hpr, hle]
      have hesl : (List.take (0 + kids.length) ((kids.map Re.cells).map (fun x => x.map V.d))).length = kids.length := by simp
      rw [hesl]
      refine ⟨⟨by omega, by omega⟩, ?_⟩
      by_cases h1 : (1 : Int) < (kids.length : Int)
      · rw [if_pos h1]
        refine callGiveP [3, 4] hput ?_ (by simp [refsV, refsV.go, reV_eq, i64, bV, reEl]) (by simp [refsV, refsV.go, reV_eq, i64, bV, reEl]) ?_
        · refine frz3 (frz_own (ds := set.map spanC) rfl (cutL (by simp)) (by simp) (.inr rfl)) (frz_own (ds := (kids.drop 1).map Re.cells) rfl ?_ ?_ (.inr rfl)) rfl
          · rw [List.take_of_length_le (by simp)]; simp
          · simp; omega
        simp only [vsL, vsB, vsC, appendWp, Nat.reduceShiftRight, Nat.reduceMod, Nat.reduceLT, Nat.reduceMul, Nat.reduceSub, Int.reduceToNat, Int.reduceNeg, Int.reduceLT, Int.reduceLE, Int.reduceEq, Nat.reduceEqDiff, Nat.reduceAdd, Nat.reduceLeDiff, reduceIte, reduceCtorEq, Nat.reduceBEq, tysA, i64, patV, bV, iD, bD, killO, kill1, Re.cells_eq R, List.map_cons, List.map_nil]
      · rw [if_neg h1]
        have hd1 : kids.drop 1 = [] := List.drop_of_length_le (by omega)
        rw [hd1] at hput
        refine callGiveP [3, 4] hput ?_ (by simp [refsV, refsV.go, reV_eq, i64, bV, reEl]) (by simp [refsV, refsV.go, reV_eq, i64, bV, reEl]) ?_
        · exact frz3 (frz_own (ds := set.map spanC) rfl (cutL (by simp)) (by simp) (.inr rfl)) rfl rfl
        simp only [vsL, vsB, vsC, appendWp, Nat.reduceShiftRight, Nat.reduceMod, Nat.reduceLT, Nat.reduceMul, Nat.reduceSub, Int.reduceToNat, Int.reduceNeg, Int.reduceLT, Int.reduceLE, Int.reduceEq, Nat.reduceEqDiff, Nat.reduceAdd, Nat.reduceLeDiff, reduceIte, reduceCtorEq, Nat.reduceBEq, tysA, i64, patV, bV, iD, bD, killO, kill1, Re.cells_eq R, List.map_cons, List.map_nil]
  · -- case 10
    rw [hk] at hown
    have hb0 := (around_in by' 5 (by omega) hb).1
    have hb1 := (around_in by' 5 (by omega) hb).2
    obtain ⟨v, hv, hidx⟩ := idx_lit [by', 0, 9, 10, -1] (around by' 5) hb0 hb1 (by intro x hx; simp only [List.mem_cons, List.not_mem_nil, or_false] at hx; rcases hx with rfl | rfl | rfl | rfl | rfl <;> first | exact hb | decide)
    simp only [List.map_cons, List.map_nil, iD] at hidx
    refine ⟨⟨(pr (.mk op set kids mn mx mode n neg)).1, v, runes⟩, key _ _ _ (mk_small (by omega) (by omega) ⟨n5, n6, n7, n8, n9⟩ n10 n2') (by simp only [Re.size]; omega) hv, ?_⟩
    have hput := hput (.mk op set kids mn mx mode n neg)
    rw [reV_mk] at hput
    simp only [iD, bD] at hput
    generalize pr (.mk op set kids mn mx mode n neg) = R at *
    obtain ⟨R, E⟩ := R
    refine fn_ok Try.func33 rfl Try.ntmps33 Try.results33 rfl 0 2199023259423 (by simp) (by simp) ?_
    simp only [vsL, vsB, vsC, appendWp, Nat.reduceShiftRight, Nat.reduceMod, Nat.reduceLT, Nat.reduceMul, Nat.reduceSub, Int.reduceToNat, Int.reduceNeg, Int.reduceLT, Int.reduceLE, Int.reduceEq, Nat.reduceEqDiff, Nat.reduceAdd, Nat.reduceLeDiff, reduceIte, reduceCtorEq, Nat.reduceBEq, tysA, i64, patV, Re.cells_eq re, bV, iD, bD, List.map_cons, List.map_nil]
    refine call_pure hpaths (by simp [refsV, refsV.go, reV_eq, i64, bV, reEl]) rfl ?_
    simp only [vsL, vsB, vsC, appendWp, Nat.reduceShiftRight, Nat.reduceMod, Nat.reduceLT, Nat.reduceMul, Nat.reduceSub, Int.reduceToNat, Int.reduceNeg, Int.reduceLT, Int.reduceLE, Int.reduceEq, Nat.reduceEqDiff, Nat.reduceAdd, Nat.reduceLeDiff, reduceIte, reduceCtorEq, Nat.reduceBEq, tysA, i64, pathsD, List.length_map, hpl]
    refine call_pure har (by simp [refsV, refsV.go, reV_eq, i64, bV, reEl]) (by simp [refsV, refsV.go, reV_eq, i64, bV, reEl]) ?_
    simp only [vsL, vsB, vsC, appendWp, Nat.reduceShiftRight, Nat.reduceMod, Nat.reduceLT, Nat.reduceMul, Nat.reduceSub, Int.reduceToNat, Int.reduceNeg, Int.reduceLT, Int.reduceLE, Int.reduceEq, Nat.reduceEqDiff, Nat.reduceAdd, Nat.reduceLeDiff, reduceIte, reduceCtorEq, Nat.reduceBEq, tysA, i64, pathsD, hin, hpl, hpath, pathD]
    refine call_pure hat (by simp [refsV, refsV.go, reV_eq, i64, bV, reEl]) (by simp [refsV, refsV.go, reV_eq, i64, bV, reEl]) ?_
    simp only [vsL, vsB, vsC, appendWp, Nat.reduceShiftRight, Nat.reduceMod, Nat.reduceLT, Nat.reduceMul, Nat.reduceSub, Int.reduceToNat, Int.reduceNeg, Int.reduceLT, Int.reduceLE, Int.reduceEq, Nat.reduceEqDiff, Nat.reduceAdd, Nat.reduceLeDiff, reduceIte, reduceCtorEq, Nat.reduceBEq, tysA, i64, patV, bV, iD, bD]
    refine ⟨hs2, ⟨by omega, by simp⟩, hs8, ⟨by omega, by simp⟩, ?_⟩
    refine call_pure hown rfl rfl ?_
    simp only [vsL, vsB, vsC, appendWp, Nat.reduceShiftRight, Nat.reduceMod, Nat.reduceLT, Nat.reduceMul, Nat.reduceSub, Int.reduceToNat, Int.reduceNeg, Int.reduceLT, Int.reduceLE, Int.reduceEq, Nat.reduceEqDiff, Nat.reduceAdd, Nat.reduceLeDiff, reduceIte, reduceCtorEq, Nat.reduceBEq, tysA, i64, patV, bV, iD, bD]
    refine call_pure (around_ok by' 5 (by omega) hb) rfl rfl ?_
    simp only [vsL, vsB, vsC, appendWp, Nat.reduceShiftRight, Nat.reduceMod, Nat.reduceLT, Nat.reduceMul, Nat.reduceSub, Int.reduceToNat, Int.reduceNeg, Int.reduceLT, Int.reduceLE, Int.reduceEq, Nat.reduceEqDiff, Nat.reduceAdd, Nat.reduceLeDiff, reduceIte, reduceCtorEq, Nat.reduceBEq, tysA, i64, patV, bV, iD, bD, hb0, hb1, hidx]
    refine ⟨by omega, ?_⟩
    refine callGiveP [3, 4] hput ?_ (by simp [refsV, refsV.go, reV_eq, i64, bV, reEl]) (by simp [refsV, refsV.go, reV_eq, i64, bV, reEl]) ?_
    · exact frz3 (frz_own (ds := set.map spanC) rfl (cutL (by simp)) (by simp) (.inr rfl)) (frz_own (ds := kids.map Re.cells) rfl (cutL (by simp)) (by simp) (.inr rfl)) rfl
    simp only [vsL, vsB, vsC, appendWp, Nat.reduceShiftRight, Nat.reduceMod, Nat.reduceLT, Nat.reduceMul, Nat.reduceSub, Int.reduceToNat, Int.reduceNeg, Int.reduceLT, Int.reduceLE, Int.reduceEq, Nat.reduceEqDiff, Nat.reduceAdd, Nat.reduceLeDiff, reduceIte, reduceCtorEq, Nat.reduceBEq, tysA, i64, patV, bV, iD, bD, killO, kill1, Re.cells_eq R, List.map_cons, List.map_nil]
  · -- case 11
    rw [hk] at hown
    refine ⟨⟨(pr (.mk op set kids mn mx mode n neg)).1, caps, (!runes)⟩, key _ _ _ (mk_small (by omega) (by omega) ⟨n5, n6, n7, n8, n9⟩ n10 n2') (by simp only [Re.size]; omega) hcaps, ?_⟩
    have hput := hput (.mk op set kids mn mx mode n neg)
    rw [reV_mk] at hput
    simp only [iD, bD] at hput
    generalize pr (.mk op set kids mn mx mode n neg) = R at *
    obtain ⟨R, E⟩ := R
    refine fn_ok Try.func33 rfl Try.ntmps33 Try.results33 rfl 0 2199023259423 (by simp) (by simp) ?_
    simp only [vsL, vsB, vsC, appendWp, Nat.reduceShiftRight, Nat.reduceMod, Nat.reduceLT, Nat.reduceMul, Nat.reduceSub, Int.reduceToNat, Int.reduceNeg, Int.reduceLT, Int.reduceLE, Int.reduceEq, Nat.reduceEqDiff, Nat.reduceAdd, Nat.reduceLeDiff, reduceIte, reduceCtorEq, Nat.reduceBEq, tysA, i64, patV, Re.cells_eq re, bV, iD, bD, List.map_cons, List.map_nil]
    refine call_pure hpaths (by simp [refsV, refsV.go, reV_eq, i64, bV, reEl]) rfl ?_
    simp only [vsL, vsB, vsC, appendWp, Nat.reduceShiftRight, Nat.reduceMod, Nat.reduceLT, Nat.reduceMul, Nat.reduceSub, Int.reduceToNat, Int.reduceNeg, Int.reduceLT, Int.reduceLE, Int.reduceEq, Nat.reduceEqDiff, Nat.reduceAdd, Nat.reduceLeDiff, reduceIte, reduceCtorEq, Nat.reduceBEq, tysA, i64, pathsD, List.length_map, hpl]
    refine call_pure har (by simp [refsV, refsV.go, reV_eq, i64, bV, reEl]) (by simp [refsV, refsV.go, reV_eq, i64, bV, reEl]) ?_
    simp only [vsL, vsB, vsC, appendWp, Nat.reduceShiftRight, Nat.reduceMod, Nat.reduceLT, Nat.reduceMul, Nat.reduceSub, Int.reduceToNat, Int.reduceNeg, Int.reduceLT, Int.reduceLE, Int.reduceEq, Nat.reduceEqDiff, Nat.reduceAdd, Nat.reduceLeDiff, reduceIte, reduceCtorEq, Nat.reduceBEq, tysA, i64, pathsD, hin, hpl, hpath, pathD]
    refine call_pure hat (by simp [refsV, refsV.go, reV_eq, i64, bV, reEl]) (by simp [refsV, refsV.go, reV_eq, i64, bV, reEl]) ?_
    simp only [vsL, vsB, vsC, appendWp, Nat.reduceShiftRight, Nat.reduceMod, Nat.reduceLT, Nat.reduceMul, Nat.reduceSub, Int.reduceToNat, Int.reduceNeg, Int.reduceLT, Int.reduceLE, Int.reduceEq, Nat.reduceEqDiff, Nat.reduceAdd, Nat.reduceLeDiff, reduceIte, reduceCtorEq, Nat.reduceBEq, tysA, i64, patV, bV, iD, bD]
    refine ⟨hs2, ⟨by omega, by simp⟩, hs8, ⟨by omega, by simp⟩, ?_⟩
    refine call_pure hown rfl rfl ?_
    simp only [vsL, vsB, vsC, appendWp, Nat.reduceShiftRight, Nat.reduceMod, Nat.reduceLT, Nat.reduceMul, Nat.reduceSub, Int.reduceToNat, Int.reduceNeg, Int.reduceLT, Int.reduceLE, Int.reduceEq, Nat.reduceEqDiff, Nat.reduceAdd, Nat.reduceLeDiff, reduceIte, reduceCtorEq, Nat.reduceBEq, tysA, i64, patV, bV, iD, bD]
    refine callGiveP [3, 4] hput ?_ (by simp [refsV, refsV.go, reV_eq, i64, bV, reEl]) (by simp [refsV, refsV.go, reV_eq, i64, bV, reEl]) ?_
    · exact frz3 (frz_own (ds := set.map spanC) rfl (cutL (by simp)) (by simp) (.inr rfl)) (frz_own (ds := kids.map Re.cells) rfl (cutL (by simp)) (by simp) (.inr rfl)) rfl
    simp only [vsL, vsB, vsC, appendWp, Nat.reduceShiftRight, Nat.reduceMod, Nat.reduceLT, Nat.reduceMul, Nat.reduceSub, Int.reduceToNat, Int.reduceNeg, Int.reduceLT, Int.reduceLE, Int.reduceEq, Nat.reduceEqDiff, Nat.reduceAdd, Nat.reduceLeDiff, reduceIte, reduceCtorEq, Nat.reduceBEq, tysA, i64, patV, bV, iD, bD, killO, kill1, Re.cells_eq R, List.map_cons, List.map_nil]

end Go.Proofs.Ytafbdphblilenaa

set_option linter.unusedSimpArgs false
set_option linter.unusedVariables false
namespace Go.Proofs.Ytafbdphblilenaa
open Go.VL

/-! ### The reference's lengths -/

def altR : List (Int × Int) → Int × Int
  | [] => (0, 0)
  | k :: l => l.foldl altF k

def hdL (l : List (Int × Int)) : Int × Int := l.headD (0, 0)

def rlensOp (op mn mx : Int) (l : List (Int × Int)) : Int × Int :=
  if op = 1 then (1, 1)
  else if op = 6 then (0, -1)
  else if op = 2 then catL l
  else if op = 3 ∨ op = 10 then altR l
  else if op = 4 then (ltimes (hdL l).1 mn, ltimes (hdL l).2 mx)
  else if op = 5 ∨ op = 9 then hdL l
  else (0, 0)

mutual
def Re.rlens : Re → Int × Int
  | .mk op _ kids mn mx _ _ _ => rlensOp op mn mx (Re.rlensL kids)
def Re.rlensL : List Re → List (Int × Int)
  | [] => []
  | k :: l => k.rlens :: Re.rlensL l
end

theorem Re.rlensL_eq : ∀ l : List Re, Re.rlensL l = l.map Re.rlens
  | [] => by simp [Re.rlensL]
  | k :: l => by simp [Re.rlensL, Re.rlensL_eq l]

theorem Re.rlens_eq (re : Re) : re.rlens = rlensOp re.op re.mn re.mx (re.kids.map Re.rlens) := by
  cases re; simp [Re.rlens, Re.rlensL_eq, Re.op, Re.mn, Re.mx, Re.kids]

/-- Where a first kid is read, there is one. -/
def kidB (r : Re) : Bool := decide (r.op = 3 ∨ r.op = 10 ∨ r.op = 4 ∨ r.op = 5 ∨ r.op = 9 → 0 < r.kids.length)

def loO (g : Nat) (L : List (Int × Int)) : VL.Obj := ⟨g, true, 1, L.map fun x => [V.d (.sc (.int .i64 x.1))]⟩
def hiO (g : Nat) (L : List (Int × Int)) : VL.Obj := ⟨g, true, 1, L.map fun x => [V.d (.sc (.int .i64 x.2))]⟩

def boxRe (re : Re) : VL.Obj := ⟨0, true, 8, [re.cells.map .d]⟩

theorem altR_snoc {l : List (Int × Int)} (h : l ≠ []) (k : Int × Int) : altR (l ++ [k]) = altF (altR l) k := by
  cases l with
  | nil => exact absurd rfl h
  | cons x l => simp [altR, List.foldl_append]

set_option maxRecDepth 100000 in
set_option maxHeartbeats 16000000 in
theorem refLengths_ok (re : Re) (hf : re.fine = true) (hk : re.every kidB = true) : PureOK Try.prog 29 [reV re] (.tu [i64 re.rlens.1, i64 re.rlens.2]) := by
  revert hf hk
  refine Re.ind (Q := fun re => re.fine = true → re.every kidB = true → PureOK Try.prog 29 [reV re] (.tu [i64 re.rlens.1, i64 re.rlens.2])) (fun re ih hf hk => ?_) re
  obtain ⟨hset1, hlen, hfk⟩ := Re.fine_spec hf
  obtain ⟨hk1, hk2⟩ := (Re.every_iff re).1 hk
  simp only [kidB, decide_eq_true_eq] at hk1
  rw [Re.rlens_eq]
  refine fn_ok Try.func29 rfl Try.ntmps29 Try.results29 rfl 0 1298074214633854481086313270378495 (by simp) (by simp) ?_
  simp only [vsL, vsB, vsC, appendWp, Nat.reduceShiftRight, Nat.reduceMod, Nat.reduceLT, Nat.reduceMul, Nat.reduceSub, Int.reduceToNat, Int.reduceNeg, Int.reduceLT, Int.reduceLE, Int.reduceEq, Nat.reduceEqDiff, Nat.reduceAdd, Nat.reduceLeDiff, reduceIte, reduceCtorEq, Nat.reduceBEq, tysA, i64, reV_eq re, iD, bD]
  refine loop_rule (fun n e s => ∃ i : Nat, n = re.kids.length - i ∧ i ≤ re.kids.length ∧ e 1 = .rf 0 0 0 0 ∧ e 6 = i64 i ∧
      ((i = 0 ∧ e 4 = .fu [] ∧ e 5 = .fu [] ∧ s = [boxRe re]) ∨ ∃ g, 0 < i ∧ e 4 = .so 1 g 0 i ∧ e 5 = .so 2 g 0 i ∧ s = [boxRe re, loO g ((re.kids.map Re.rlens).take i), hiO g ((re.kids.map Re.rlens).take i)]))
    ⟨_, _, _, Cln.refl, 0, rfl, by omega, rfl, rfl, .inl ⟨rfl, rfl, rfl, by simp [boxRe, Re.cells_eq re, iD, bD]⟩⟩ ?_
  rintro n e s ⟨i, rfl, hi, h1, h6, hacc⟩
  have hbox : boxRe re = ⟨0, true, 8, [[i64 re.op, .d (.sl (re.set.map spanC)), .d (.sl (re.kids.map Re.cells)), i64 re.mn, i64 re.mx, i64 re.mode, i64 re.n, bV re.neg]]⟩ := by
    unfold boxRe; rw [Re.cells_eq]; rfl
  rcases Nat.lt_or_ge i re.kids.length with hlt | hge
  · obtain ⟨k, hkk⟩ : ∃ k, re.kids[i]? = some k := ⟨_, List.getElem?_eq_getElem hlt⟩
    have hm := List.mem_of_getElem? hkk
    have hkl : (re.kids.map Re.rlens)[i]? = some k.rlens := by rw [List.getElem?_map, hkk]; rfl
    rcases hacc with ⟨rfl, h4, h5, rfl⟩ | ⟨g, hi0, h4, h5, rfl⟩
    · simp only [vsL, vsB, vsC, appendWp, Nat.reduceShiftRight, Nat.reduceMod, Nat.reduceLT, Nat.reduceMul, Nat.reduceSub, Int.reduceToNat, Int.reduceNeg, Int.reduceLT, Int.reduceLE, Int.reduceEq, Nat.reduceEqDiff, Nat.reduceAdd, Nat.reduceLeDiff, reduceIte, reduceCtorEq, Nat.reduceBEq, tysA, i64, bV, hbox, iD, bD, h1, h4, h5, h6, hlt, hkk]
      refine call_pure (ih k hm (hfk k hm) (hk2 k hm)) (by simp [refsV, refsV.go, reV_eq, i64, bV, reEl]) (by simp [refsV, refsV.go, reV_eq, i64, bV, reEl]) ?_
      simp only [vsL, vsB, vsC, appendWp, Nat.reduceShiftRight, Nat.reduceMod, Nat.reduceLT, Nat.reduceMul, Nat.reduceSub, Int.reduceToNat, Int.reduceNeg, Int.reduceLT, Int.reduceLE, Int.reduceEq, Nat.reduceEqDiff, Nat.reduceAdd, Nat.reduceLeDiff, reduceIte, reduceCtorEq, Nat.reduceBEq, tysA, i64, bV, hbox, iD, bD, h1, h4, h5, h6]
      refine ⟨by simp, by simp, by simp, by simp, re.kids.length - 1, _, _, by omega, Cln.refl, 1, rfl, by omega, ?_, ?_, .inr ⟨0, by omega, ?_, ?_, ?_⟩⟩ <;> (try simp only [keepE_app, List.contains_cons, List.contains_nil, Nat.reduceBEq, Bool.or_false, Bool.false_or, Bool.or_true, Bool.true_or, updE, trimE_upd, trimE_trim, trimE_app, Nat.reduceShiftRight, Nat.reduceMod, Nat.reduceEqDiff, if_true, if_false, reduceIte])
      · exact h1
      · rw [w64 _ (by omega)]; rfl
      · rw [take_get hkl]; simp [loO, hiO]
    · simp only [vsL, vsB, vsC, appendWp, Nat.reduceShiftRight, Nat.reduceMod, Nat.reduceLT, Nat.reduceMul, Nat.reduceSub, Int.reduceToNat, Int.reduceNeg, Int.reduceLT, Int.reduceLE, Int.reduceEq, Nat.reduceEqDiff, Nat.reduceAdd, Nat.reduceLeDiff, reduceIte, reduceCtorEq, Nat.reduceBEq, tysA, i64, bV, hbox, iD, bD, h1, h4, h5, h6, hlt, hkk]
      refine call_pure (ih k hm (hfk k hm) (hk2 k hm)) (by simp [refsV, refsV.go, reV_eq, i64, bV, reEl]) (by simp [refsV, refsV.go, reV_eq, i64, bV, reEl]) ?_
      simp only [vsL, vsB, vsC, appendWp, Nat.reduceShiftRight, Nat.reduceMod, Nat.reduceLT, Nat.reduceMul, Nat.reduceSub, Int.reduceToNat, Int.reduceNeg, Int.reduceLT, Int.reduceLE, Int.reduceEq, Nat.reduceEqDiff, Nat.reduceAdd, Nat.reduceLeDiff, reduceIte, reduceCtorEq, Nat.reduceBEq, tysA, i64, bV, hbox, iD, bD, h1, h4, h5, h6, loO, hiO]
      have hcl : (List.take i (re.kids.map Re.rlens)).length = i := by simp; omega
      refine ⟨by simp, ⟨by omega, by omega⟩, by simp, ⟨by omega, by omega⟩, re.kids.length - (i + 1), _, _, by omega, Cln.refl, i + 1, rfl, by omega, ?_, ?_, .inr ⟨g + 1, by omega, ?_, ?_, ?_⟩⟩ <;> (try simp only [keepE_app, List.contains_cons, List.contains_nil, Nat.reduceBEq, Bool.or_false, Bool.false_or, Bool.or_true, Bool.true_or, updE, trimE_upd, trimE_trim, trimE_app, Nat.reduceShiftRight, Nat.reduceMod, Nat.reduceEqDiff, if_true, if_false, reduceIte])
      · exact h1
      · rw [w64 _ (by omega)]; rfl
      · rw [take_get hkl]
        simp [loO, hiO, List.take_take]
  · have hie : i = re.kids.length := by omega
    subst hie
    have hLl : (re.kids.map Re.rlens).length = re.kids.length := by simp
    have hLt : (re.kids.map Re.rlens).take re.kids.length = re.kids.map Re.rlens := List.take_of_length_le (by simp)
    rw [hLt] at hacc
    generalize re.kids.map Re.rlens = L at *
    have hcase : re.op = 1 ∨ re.op = 6 ∨ re.op = 2 ∨ re.op = 3 ∨ re.op = 10 ∨ re.op = 4 ∨ re.op = 5 ∨ re.op = 9 ∨ (¬ re.op = 1 ∧ ¬ re.op = 6 ∧ ¬ re.op = 2 ∧ ¬ re.op = 3 ∧ ¬ re.op = 10 ∧ ¬ re.op = 4 ∧ ¬ re.op = 5 ∧ ¬ re.op = 9) := by omega
    rcases hacc with ⟨h0, h4, h5, rfl⟩ | ⟨g, hi0, h4, h5, rfl⟩
    · have hL : L = [] := List.eq_nil_of_length_eq_zero (by omega)
      subst hL
      rcases hcase with p | p | p | p | p | p | p | p | ⟨p1, p2, p3, p4, p5, p6, p7, p8⟩
      case inr.inr.inr.inl => have := hk1 (by omega); omega
      case inr.inr.inr.inr.inl => have := hk1 (by omega); omega
      case inr.inr.inr.inr.inr.inl => have := hk1 (by omega); omega
      case inr.inr.inr.inr.inr.inr.inl => have := hk1 (by omega); omega
      case inr.inr.inr.inr.inr.inr.inr.inl => have := hk1 (by omega); omega
      · rw [p]
        simp only [vsL, vsB, vsC, appendWp, Nat.reduceShiftRight, Nat.reduceMod, Nat.reduceLT, Nat.reduceMul, Nat.reduceSub, Int.reduceToNat, Int.reduceNeg, Int.reduceLT, Int.reduceLE, Int.reduceEq, Nat.reduceEqDiff, Nat.reduceAdd, Nat.reduceLeDiff, reduceIte, reduceCtorEq, Nat.reduceBEq, tysA, i64, bV, hbox, iD, bD, h1, h4, h5, h6, Nat.lt_irrefl, p]
        all_goals first | exact ⟨rfl, rfl⟩ | exact ⟨rfl, trivial⟩ | rfl | trivial | (rw [reV_eq]; rfl)
      · rw [p]
        simp only [vsL, vsB, vsC, appendWp, Nat.reduceShiftRight, Nat.reduceMod, Nat.reduceLT, Nat.reduceMul, Nat.reduceSub, Int.reduceToNat, Int.reduceNeg, Int.reduceLT, Int.reduceLE, Int.reduceEq, Nat.reduceEqDiff, Nat.reduceAdd, Nat.reduceLeDiff, reduceIte, reduceCtorEq, Nat.reduceBEq, tysA, i64, bV, hbox, iD, bD, h1, h4, h5, h6, Nat.lt_irrefl, p]
        all_goals first | exact ⟨rfl, rfl⟩ | exact ⟨rfl, trivial⟩ | rfl | trivial | (rw [reV_eq]; rfl)
      · rw [p]
        simp only [vsL, vsB, vsC, appendWp, Nat.reduceShiftRight, Nat.reduceMod, Nat.reduceLT, Nat.reduceMul, Nat.reduceSub, Int.reduceToNat, Int.reduceNeg, Int.reduceLT, Int.reduceLE, Int.reduceEq, Nat.reduceEqDiff, Nat.reduceAdd, Nat.reduceLeDiff, reduceIte, reduceCtorEq, Nat.reduceBEq, tysA, i64, bV, hbox, iD, bD, h1, h4, h5, h6, Nat.lt_irrefl, p]
        refine loop_rule (fun n e s => e 4 = .fu [] ∧ e 5 = .fu [] ∧ e 9 = i64 0 ∧ e 10 = i64 0 ∧ e 11 = i64 0) ⟨0, _, _, Cln.refl, ?_, ?_, rfl, rfl, rfl⟩ ?_ <;> (try simp only [keepE_app, List.contains_cons, List.contains_nil, Nat.reduceBEq, Bool.or_false, Bool.false_or, Bool.or_true, Bool.true_or, updE, trimE_upd, trimE_trim, trimE_app, Nat.reduceShiftRight, Nat.reduceMod, Nat.reduceEqDiff, if_true, if_false, reduceIte])
        · exact h4
        · exact h5
        rintro n e s ⟨h4, h5, h9, h10, h11⟩
        simp only [vsL, vsB, vsC, appendWp, Nat.reduceShiftRight, Nat.reduceMod, Nat.reduceLT, Nat.reduceMul, Nat.reduceSub, Int.reduceToNat, Int.reduceNeg, Int.reduceLT, Int.reduceLE, Int.reduceEq, Nat.reduceEqDiff, Nat.reduceAdd, Nat.reduceLeDiff, reduceIte, reduceCtorEq, Nat.reduceBEq, tysA, i64, h4, h5, h9, h10, h11, Int.natCast_zero]
        all_goals first | exact ⟨rfl, rfl⟩ | exact ⟨rfl, trivial⟩ | rfl | trivial | (rw [reV_eq]; rfl)
      · rw [show rlensOp re.op re.mn re.mx [] = (0, 0) by simp [rlensOp, p1, p2, p3, p4, p5, p6, p7, p8]]
        simp only [vsL, vsB, vsC, appendWp, Nat.reduceShiftRight, Nat.reduceMod, Nat.reduceLT, Nat.reduceMul, Nat.reduceSub, Int.reduceToNat, Int.reduceNeg, Int.reduceLT, Int.reduceLE, Int.reduceEq, Nat.reduceEqDiff, Nat.reduceAdd, Nat.reduceLeDiff, reduceIte, reduceCtorEq, Nat.reduceBEq, tysA, i64, bV, hbox, iD, bD, h1, h4, h5, h6, Nat.lt_irrefl, p1, p2, p3, p4, p5, p6, p7, p8]
        all_goals first | exact ⟨rfl, rfl⟩ | exact ⟨rfl, trivial⟩ | rfl | trivial | (rw [reV_eq]; rfl)
    · obtain ⟨k0, L0, rfl⟩ : ∃ k l, L = k :: l := by
        cases L with
        | nil => simp at hLl; omega
        | cons k l => exact ⟨k, l, rfl⟩
      rcases hcase with p | p | p | p | p | p | p | p | ⟨p1, p2, p3, p4, p5, p6, p7, p8⟩
      · rw [p]
        simp only [vsL, vsB, vsC, appendWp, Nat.reduceShiftRight, Nat.reduceMod, Nat.reduceLT, Nat.reduceMul, Nat.reduceSub, Int.reduceToNat, Int.reduceNeg, Int.reduceLT, Int.reduceLE, Int.reduceEq, Nat.reduceEqDiff, Nat.reduceAdd, Nat.reduceLeDiff, reduceIte, reduceCtorEq, Nat.reduceBEq, tysA, i64, bV, hbox, iD, bD, h1, h4, h5, h6, Nat.lt_irrefl, p]
        all_goals first | exact ⟨rfl, rfl⟩ | exact ⟨rfl, trivial⟩ | rfl | trivial | (rw [reV_eq]; rfl)
      · rw [p]
        simp only [vsL, vsB, vsC, appendWp, Nat.reduceShiftRight, Nat.reduceMod, Nat.reduceLT, Nat.reduceMul, Nat.reduceSub, Int.reduceToNat, Int.reduceNeg, Int.reduceLT, Int.reduceLE, Int.reduceEq, Nat.reduceEqDiff, Nat.reduceAdd, Nat.reduceLeDiff, reduceIte, reduceCtorEq, Nat.reduceBEq, tysA, i64, bV, hbox, iD, bD, h1, h4, h5, h6, Nat.lt_irrefl, p]
        all_goals first | exact ⟨rfl, rfl⟩ | exact ⟨rfl, trivial⟩ | rfl | trivial | (rw [reV_eq]; rfl)
      · rw [p]
        generalize k0 :: L0 = LL at *
        simp only [vsL, vsB, vsC, appendWp, Nat.reduceShiftRight, Nat.reduceMod, Nat.reduceLT, Nat.reduceMul, Nat.reduceSub, Int.reduceToNat, Int.reduceNeg, Int.reduceLT, Int.reduceLE, Int.reduceEq, Nat.reduceEqDiff, Nat.reduceAdd, Nat.reduceLeDiff, reduceIte, reduceCtorEq, Nat.reduceBEq, tysA, i64, bV, hbox, iD, bD, h1, h4, h5, h6, Nat.lt_irrefl, p]
        refine loop_rule (fun n e s => ∃ j : Nat, n = LL.length - j ∧ j ≤ LL.length ∧ e 4 = .so 1 g 0 re.kids.length ∧ e 5 = .so 2 g 0 re.kids.length ∧ e 9 = i64 (catL (LL.take j)).1 ∧ e 10 = i64 (catL (LL.take j)).2 ∧ e 11 = i64 j ∧ s = [boxRe re, loO g LL, hiO g LL])
          ⟨_, _, _, Cln.refl, 0, rfl, by omega, ?_, ?_, rfl, rfl, rfl, by rw [hbox, p]; rfl⟩ ?_ <;> (try simp only [keepE_app, List.contains_cons, List.contains_nil, Nat.reduceBEq, Bool.or_false, Bool.false_or, Bool.or_true, Bool.true_or, updE, trimE_upd, trimE_trim, trimE_app, Nat.reduceShiftRight, Nat.reduceMod, Nat.reduceEqDiff, if_true, if_false, reduceIte])
        · exact h4
        · exact h5
        clear h1 h4 h5 h6
        rintro n e s ⟨j, rfl, hj, h4, h5, h9, h10, h11, rfl⟩
        rcases Nat.lt_or_ge j LL.length with hlt | hge
        · obtain ⟨x, hx⟩ : ∃ x, LL[j]? = some x := ⟨_, List.getElem?_eq_getElem hlt⟩
          have hjk : j < re.kids.length := by omega
          simp only [vsL, vsB, vsC, appendWp, Nat.reduceShiftRight, Nat.reduceMod, Nat.reduceLT, Nat.reduceMul, Nat.reduceSub, Int.reduceToNat, Int.reduceNeg, Int.reduceLT, Int.reduceLE, Int.reduceEq, Nat.reduceEqDiff, Nat.reduceAdd, Nat.reduceLeDiff, reduceIte, reduceCtorEq, Nat.reduceBEq, tysA, i64, bV, hbox, iD, bD, h4, h5, h9, h10, h11, hjk, loO, hiO, Nat.zero_add, hx]
          refine call_pure (refPlus_ok _ _) (by simp [refsV, refsV.go, reV_eq, i64, bV, reEl]) (by simp [refsV, refsV.go, reV_eq, i64, bV, reEl]) ?_
          simp only [vsL, vsB, vsC, appendWp, Nat.reduceShiftRight, Nat.reduceMod, Nat.reduceLT, Nat.reduceMul, Nat.reduceSub, Int.reduceToNat, Int.reduceNeg, Int.reduceLT, Int.reduceLE, Int.reduceEq, Nat.reduceEqDiff, Nat.reduceAdd, Nat.reduceLeDiff, reduceIte, reduceCtorEq, Nat.reduceBEq, tysA, i64, bV, hbox, iD, bD, h4, h5, h9, h10, h11, hjk, loO, hiO, Nat.zero_add, hx]
          refine call_pure (refPlus_ok _ _) (by simp [refsV, refsV.go, reV_eq, i64, bV, reEl]) (by simp [refsV, refsV.go, reV_eq, i64, bV, reEl]) ?_
          simp only [vsL, vsB, vsC, appendWp, Nat.reduceShiftRight, Nat.reduceMod, Nat.reduceLT, Nat.reduceMul, Nat.reduceSub, Int.reduceToNat, Int.reduceNeg, Int.reduceLT, Int.reduceLE, Int.reduceEq, Nat.reduceEqDiff, Nat.reduceAdd, Nat.reduceLeDiff, reduceIte, reduceCtorEq, Nat.reduceBEq, tysA, i64, bV, hbox, iD, bD, h4, h5, h9, h10, h11]
          refine ⟨LL.length - (j + 1), _, _, by omega, Cln.refl, j + 1, rfl, hlt, ?_, ?_, ?_, ?_, ?_, rfl⟩ <;> (try simp only [keepE_app, List.contains_cons, List.contains_nil, Nat.reduceBEq, Bool.or_false, Bool.false_or, Bool.or_true, Bool.true_or, updE, trimE_upd, trimE_trim, trimE_app, Nat.reduceShiftRight, Nat.reduceMod, Nat.reduceEqDiff, if_true, if_false, reduceIte])
          · exact h4
          · exact h5
          · rw [take_get hx, catL_snoc]
          · rw [take_get hx, catL_snoc]
          · rw [w64 _ (by omega)]; rfl
        · have hje : j = LL.length := by omega
          subst hje
          rw [List.take_length] at h9 h10
          simp only [vsL, vsB, vsC, appendWp, Nat.reduceShiftRight, Nat.reduceMod, Nat.reduceLT, Nat.reduceMul, Nat.reduceSub, Int.reduceToNat, Int.reduceNeg, Int.reduceLT, Int.reduceLE, Int.reduceEq, Nat.reduceEqDiff, Nat.reduceAdd, Nat.reduceLeDiff, reduceIte, reduceCtorEq, Nat.reduceBEq, tysA, i64, bV, iD, bD, h4, h5, h9, h10, h11, hLl, Nat.lt_irrefl]
          all_goals first | exact ⟨rfl, rfl⟩ | exact ⟨rfl, trivial⟩ | rfl | trivial | (rw [reV_eq]; rfl)
      · rw [p]
        have hR : rlensOp 3 re.mn re.mx (k0 :: L0) = altR (k0 :: L0) := by simp [rlensOp]
        rw [hR]
        have hpos : (0 : Int) < re.kids.length := by omega
        have hA1 : altR ((k0 :: L0).take 1) = k0 := rfl
        have hs0 : (k0 :: L0)[0]? = some k0 := rfl
        have hne : ∀ j, 1 ≤ j → (k0 :: L0).take j ≠ [] := fun j hj => by cases j with | zero => omega | succ j => simp
        generalize k0 :: L0 = LL at *
        simp only [vsL, vsB, vsC, appendWp, Nat.reduceShiftRight, Nat.reduceMod, Nat.reduceLT, Nat.reduceMul, Nat.reduceSub, Int.reduceToNat, Int.reduceNeg, Int.reduceLT, Int.reduceLE, Int.reduceEq, Nat.reduceEqDiff, Nat.reduceAdd, Nat.reduceLeDiff, reduceIte, reduceCtorEq, Nat.reduceBEq, tysA, i64, bV, hbox, iD, bD, h1, h4, h5, h6, Nat.lt_irrefl, p, hpos, loO, hiO, Nat.zero_add, hs0]
        refine loop_rule (fun n e s => ∃ j : Nat, n = LL.length - j ∧ 1 ≤ j ∧ j ≤ LL.length ∧ e 4 = .so 1 g 0 re.kids.length ∧ e 5 = .so 2 g 0 re.kids.length ∧ e 12 = i64 (altR (LL.take j)).1 ∧ e 13 = i64 (altR (LL.take j)).2 ∧ e 14 = i64 j ∧ s = [boxRe re, loO g LL, hiO g LL])
          ⟨_, _, _, Cln.refl, 1, rfl, Nat.le_refl _, by omega, ?_, ?_, by rw [hA1]; rfl, by rw [hA1]; rfl, rfl, by rw [hbox, p]; rfl⟩ ?_ <;> (try simp only [keepE_app, List.contains_cons, List.contains_nil, Nat.reduceBEq, Bool.or_false, Bool.false_or, Bool.or_true, Bool.true_or, updE, trimE_upd, trimE_trim, trimE_app, Nat.reduceShiftRight, Nat.reduceMod, Nat.reduceEqDiff, if_true, if_false, reduceIte])
        · exact h4
        · exact h5
        clear h1 h4 h5 h6
        rintro n e s ⟨j, rfl, hj1, hj, h4, h5, h9, h10, h11, rfl⟩
        rcases Nat.lt_or_ge j LL.length with hlt | hge
        · obtain ⟨x, hx⟩ : ∃ x, LL[j]? = some x := ⟨_, List.getElem?_eq_getElem hlt⟩
          have hjk : j < re.kids.length := by omega
          simp only [vsL, vsB, vsC, appendWp, Nat.reduceShiftRight, Nat.reduceMod, Nat.reduceLT, Nat.reduceMul, Nat.reduceSub, Int.reduceToNat, Int.reduceNeg, Int.reduceLT, Int.reduceLE, Int.reduceEq, Nat.reduceEqDiff, Nat.reduceAdd, Nat.reduceLeDiff, reduceIte, reduceCtorEq, Nat.reduceBEq, tysA, i64, bV, hbox, iD, bD, h4, h5, h9, h10, h11, hjk, loO, hiO, Nat.zero_add, hx]
          refine call_pure (refGreater_ok _ _) (by simp [refsV, refsV.go, reV_eq, i64, bV, reEl]) (by simp [refsV, refsV.go, reV_eq, i64, bV, reEl]) ?_
          simp only [vsL, vsB, vsC, appendWp, Nat.reduceShiftRight, Nat.reduceMod, Nat.reduceLT, Nat.reduceMul, Nat.reduceSub, Int.reduceToNat, Int.reduceNeg, Int.reduceLT, Int.reduceLE, Int.reduceEq, Nat.reduceEqDiff, Nat.reduceAdd, Nat.reduceLeDiff, reduceIte, reduceCtorEq, Nat.reduceBEq, tysA, i64, bV, hbox, iD, bD, h4, h5, h9, h10, h11]
          refine ⟨LL.length - (j + 1), _, _, by omega, Cln.refl, j + 1, rfl, by omega, hlt, ?_, ?_, ?_, ?_, ?_, rfl⟩ <;> (try simp only [keepE_app, List.contains_cons, List.contains_nil, Nat.reduceBEq, Bool.or_false, Bool.false_or, Bool.or_true, Bool.true_or, updE, trimE_upd, trimE_trim, trimE_app, Nat.reduceShiftRight, Nat.reduceMod, Nat.reduceEqDiff, if_true, if_false, reduceIte])
          · exact h4
          · exact h5
          · rw [take_get hx, altR_snoc (hne j hj1)]; rfl
          · rw [take_get hx, altR_snoc (hne j hj1)]; rfl
          · rw [w64 _ (by omega)]; rfl
        · have hje : j = LL.length := by omega
          subst hje
          rw [List.take_length] at h9 h10
          simp only [vsL, vsB, vsC, appendWp, Nat.reduceShiftRight, Nat.reduceMod, Nat.reduceLT, Nat.reduceMul, Nat.reduceSub, Int.reduceToNat, Int.reduceNeg, Int.reduceLT, Int.reduceLE, Int.reduceEq, Nat.reduceEqDiff, Nat.reduceAdd, Nat.reduceLeDiff, reduceIte, reduceCtorEq, Nat.reduceBEq, tysA, i64, bV, iD, bD, h4, h5, h9, h10, h11, hLl, Nat.lt_irrefl]
          all_goals first | exact ⟨rfl, rfl⟩ | exact ⟨rfl, trivial⟩ | rfl | trivial | (rw [reV_eq]; rfl)
      · rw [p]
        have hR : rlensOp 10 re.mn re.mx (k0 :: L0) = altR (k0 :: L0) := by simp [rlensOp]
        rw [hR]
        have hpos : (0 : Int) < re.kids.length := by omega
        have hA1 : altR ((k0 :: L0).take 1) = k0 := rfl
        have hs0 : (k0 :: L0)[0]? = some k0 := rfl
        have hne : ∀ j, 1 ≤ j → (k0 :: L0).take j ≠ [] := fun j hj => by cases j with | zero => omega | succ j => simp
        generalize k0 :: L0 = LL at *
        simp only [vsL, vsB, vsC, appendWp, Nat.reduceShiftRight, Nat.reduceMod, Nat.reduceLT, Nat.reduceMul, Nat.reduceSub, Int.reduceToNat, Int.reduceNeg, Int.reduceLT, Int.reduceLE, Int.reduceEq, Nat.reduceEqDiff, Nat.reduceAdd, Nat.reduceLeDiff, reduceIte, reduceCtorEq, Nat.reduceBEq, tysA, i64, bV, hbox, iD, bD, h1, h4, h5, h6, Nat.lt_irrefl, p, hpos, loO, hiO, Nat.zero_add, hs0]
        refine loop_rule (fun n e s => ∃ j : Nat, n = LL.length - j ∧ 1 ≤ j ∧ j ≤ LL.length ∧ e 4 = .so 1 g 0 re.kids.length ∧ e 5 = .so 2 g 0 re.kids.length ∧ e 12 = i64 (altR (LL.take j)).1 ∧ e 13 = i64 (altR (LL.take j)).2 ∧ e 14 = i64 j ∧ s = [boxRe re, loO g LL, hiO g LL])
          ⟨_, _, _, Cln.refl, 1, rfl, Nat.le_refl _, by omega, ?_, ?_, by rw [hA1]; rfl, by rw [hA1]; rfl, rfl, by rw [hbox, p]; rfl⟩ ?_ <;> (try simp only [keepE_app, List.contains_cons, List.contains_nil, Nat.reduceBEq, Bool.or_false, Bool.false_or, Bool.or_true, Bool.true_or, updE, trimE_upd, trimE_trim, trimE_app, Nat.reduceShiftRight, Nat.reduceMod, Nat.reduceEqDiff, if_true, if_false, reduceIte])
        · exact h4
        · exact h5
        clear h1 h4 h5 h6
        rintro n e s ⟨j, rfl, hj1, hj, h4, h5, h9, h10, h11, rfl⟩
        rcases Nat.lt_or_ge j LL.length with hlt | hge
        · obtain ⟨x, hx⟩ : ∃ x, LL[j]? = some x := ⟨_, List.getElem?_eq_getElem hlt⟩
          have hjk : j < re.kids.length := by omega
          simp only [vsL, vsB, vsC, appendWp, Nat.reduceShiftRight, Nat.reduceMod, Nat.reduceLT, Nat.reduceMul, Nat.reduceSub, Int.reduceToNat, Int.reduceNeg, Int.reduceLT, Int.reduceLE, Int.reduceEq, Nat.reduceEqDiff, Nat.reduceAdd, Nat.reduceLeDiff, reduceIte, reduceCtorEq, Nat.reduceBEq, tysA, i64, bV, hbox, iD, bD, h4, h5, h9, h10, h11, hjk, loO, hiO, Nat.zero_add, hx]
          refine call_pure (refGreater_ok _ _) (by simp [refsV, refsV.go, reV_eq, i64, bV, reEl]) (by simp [refsV, refsV.go, reV_eq, i64, bV, reEl]) ?_
          simp only [vsL, vsB, vsC, appendWp, Nat.reduceShiftRight, Nat.reduceMod, Nat.reduceLT, Nat.reduceMul, Nat.reduceSub, Int.reduceToNat, Int.reduceNeg, Int.reduceLT, Int.reduceLE, Int.reduceEq, Nat.reduceEqDiff, Nat.reduceAdd, Nat.reduceLeDiff, reduceIte, reduceCtorEq, Nat.reduceBEq, tysA, i64, bV, hbox, iD, bD, h4, h5, h9, h10, h11]
          refine ⟨LL.length - (j + 1), _, _, by omega, Cln.refl, j + 1, rfl, by omega, hlt, ?_, ?_, ?_, ?_, ?_, rfl⟩ <;> (try simp only [keepE_app, List.contains_cons, List.contains_nil, Nat.reduceBEq, Bool.or_false, Bool.false_or, Bool.or_true, Bool.true_or, updE, trimE_upd, trimE_trim, trimE_app, Nat.reduceShiftRight, Nat.reduceMod, Nat.reduceEqDiff, if_true, if_false, reduceIte])
          · exact h4
          · exact h5
          · rw [take_get hx, altR_snoc (hne j hj1)]; rfl
          · rw [take_get hx, altR_snoc (hne j hj1)]; rfl
          · rw [w64 _ (by omega)]; rfl
        · have hje : j = LL.length := by omega
          subst hje
          rw [List.take_length] at h9 h10
          simp only [vsL, vsB, vsC, appendWp, Nat.reduceShiftRight, Nat.reduceMod, Nat.reduceLT, Nat.reduceMul, Nat.reduceSub, Int.reduceToNat, Int.reduceNeg, Int.reduceLT, Int.reduceLE, Int.reduceEq, Nat.reduceEqDiff, Nat.reduceAdd, Nat.reduceLeDiff, reduceIte, reduceCtorEq, Nat.reduceBEq, tysA, i64, bV, iD, bD, h4, h5, h9, h10, h11, hLl, Nat.lt_irrefl]
          all_goals first | exact ⟨rfl, rfl⟩ | exact ⟨rfl, trivial⟩ | rfl | trivial | (rw [reV_eq]; rfl)
      · rw [p]
        have hpos : (0 : Int) < re.kids.length := by omega
        simp only [vsL, vsB, vsC, appendWp, Nat.reduceShiftRight, Nat.reduceMod, Nat.reduceLT, Nat.reduceMul, Nat.reduceSub, Int.reduceToNat, Int.reduceNeg, Int.reduceLT, Int.reduceLE, Int.reduceEq, Nat.reduceEqDiff, Nat.reduceAdd, Nat.reduceLeDiff, reduceIte, reduceCtorEq, Nat.reduceBEq, tysA, i64, bV, hbox, iD, bD, h1, h4, h5, h6, Nat.lt_irrefl, p]
        refine draw_c mix [] [] (by rfl) ?_
        simp only [vsL, vsB, vsC, appendWp, Nat.reduceShiftRight, Nat.reduceMod, Nat.reduceLT, Nat.reduceMul, Nat.reduceSub, Int.reduceToNat, Int.reduceNeg, Int.reduceLT, Int.reduceLE, Int.reduceEq, Nat.reduceEqDiff, Nat.reduceAdd, Nat.reduceLeDiff, reduceIte, reduceCtorEq, Nat.reduceBEq, tysA, i64, bV, hbox, iD, bD, h1, h4, h5, h6, p, hpos, loO, hiO, Nat.zero_add, List.map_cons]
        refine callC_pure (refTimes_ok _ _) (by simp [refsV, refsV.go, reV_eq, i64, bV, reEl]) (by simp [refsV, refsV.go, reV_eq, i64, bV, reEl]) ?_
        simp only [vsL, vsB, vsC, appendWp, Nat.reduceShiftRight, Nat.reduceMod, Nat.reduceLT, Nat.reduceMul, Nat.reduceSub, Int.reduceToNat, Int.reduceNeg, Int.reduceLT, Int.reduceLE, Int.reduceEq, Nat.reduceEqDiff, Nat.reduceAdd, Nat.reduceLeDiff, reduceIte, reduceCtorEq, Nat.reduceBEq, tysA, i64, bV, hbox, iD, bD, h1, h4, h5, h6, p, hpos, loO, hiO, Nat.zero_add, List.map_cons]
        refine callC_pure (refTimes_ok _ _) (by simp [refsV, refsV.go, reV_eq, i64, bV, reEl]) (by simp [refsV, refsV.go, reV_eq, i64, bV, reEl]) ?_
        simp only [vsL, vsB, vsC, appendWp, Nat.reduceShiftRight, Nat.reduceMod, Nat.reduceLT, Nat.reduceMul, Nat.reduceSub, Int.reduceToNat, Int.reduceNeg, Int.reduceLT, Int.reduceLE, Int.reduceEq, Nat.reduceEqDiff, Nat.reduceAdd, Nat.reduceLeDiff, reduceIte, reduceCtorEq, Nat.reduceBEq, tysA, i64, bV, hbox, iD, bD, h1, h4, h5, h6, p, hpos]
        all_goals first | exact ⟨rfl, rfl⟩ | exact ⟨rfl, trivial⟩ | rfl | trivial | (rw [reV_eq]; rfl)
      · rw [p]
        have hpos : (0 : Int) < re.kids.length := by omega
        simp only [vsL, vsB, vsC, appendWp, Nat.reduceShiftRight, Nat.reduceMod, Nat.reduceLT, Nat.reduceMul, Nat.reduceSub, Int.reduceToNat, Int.reduceNeg, Int.reduceLT, Int.reduceLE, Int.reduceEq, Nat.reduceEqDiff, Nat.reduceAdd, Nat.reduceLeDiff, reduceIte, reduceCtorEq, Nat.reduceBEq, tysA, i64, bV, hbox, iD, bD, h1, h4, h5, h6, Nat.lt_irrefl, p]
        refine draw_c mix [] [] (by rfl) ?_
        simp only [vsL, vsB, vsC, appendWp, Nat.reduceShiftRight, Nat.reduceMod, Nat.reduceLT, Nat.reduceMul, Nat.reduceSub, Int.reduceToNat, Int.reduceNeg, Int.reduceLT, Int.reduceLE, Int.reduceEq, Nat.reduceEqDiff, Nat.reduceAdd, Nat.reduceLeDiff, reduceIte, reduceCtorEq, Nat.reduceBEq, tysA, i64, bV, hbox, iD, bD, h1, h4, h5, h6, p, hpos, loO, hiO, Nat.zero_add, List.map_cons]
        all_goals first | exact ⟨rfl, rfl⟩ | exact ⟨rfl, trivial⟩ | rfl | trivial | (rw [reV_eq]; rfl)
      · rw [p]
        have hpos : (0 : Int) < re.kids.length := by omega
        simp only [vsL, vsB, vsC, appendWp, Nat.reduceShiftRight, Nat.reduceMod, Nat.reduceLT, Nat.reduceMul, Nat.reduceSub, Int.reduceToNat, Int.reduceNeg, Int.reduceLT, Int.reduceLE, Int.reduceEq, Nat.reduceEqDiff, Nat.reduceAdd, Nat.reduceLeDiff, reduceIte, reduceCtorEq, Nat.reduceBEq, tysA, i64, bV, hbox, iD, bD, h1, h4, h5, h6, Nat.lt_irrefl, p]
        refine draw_c mix [] [] (by rfl) ?_
        simp only [vsL, vsB, vsC, appendWp, Nat.reduceShiftRight, Nat.reduceMod, Nat.reduceLT, Nat.reduceMul, Nat.reduceSub, Int.reduceToNat, Int.reduceNeg, Int.reduceLT, Int.reduceLE, Int.reduceEq, Nat.reduceEqDiff, Nat.reduceAdd, Nat.reduceLeDiff, reduceIte, reduceCtorEq, Nat.reduceBEq, tysA, i64, bV, hbox, iD, bD, h1, h4, h5, h6, p, hpos, loO, hiO, Nat.zero_add, List.map_cons]
        all_goals first | exact ⟨rfl, rfl⟩ | exact ⟨rfl, trivial⟩ | rfl | trivial | (rw [reV_eq]; rfl)
      · rw [show rlensOp re.op re.mn re.mx (k0 :: L0) = (0, 0) by simp [rlensOp, p1, p2, p3, p4, p5, p6, p7, p8]]
        simp only [vsL, vsB, vsC, appendWp, Nat.reduceShiftRight, Nat.reduceMod, Nat.reduceLT, Nat.reduceMul, Nat.reduceSub, Int.reduceToNat, Int.reduceNeg, Int.reduceLT, Int.reduceLE, Int.reduceEq, Nat.reduceEqDiff, Nat.reduceAdd, Nat.reduceLeDiff, reduceIte, reduceCtorEq, Nat.reduceBEq, tysA, i64, bV, hbox, iD, bD, h1, h4, h5, h6, Nat.lt_irrefl, p1, p2, p3, p4, p5, p6, p7, p8]
        all_goals first | exact ⟨rfl, rfl⟩ | exact ⟨rfl, trivial⟩ | rfl | trivial | (rw [reV_eq]; rfl)

end Go.Proofs.Ytafbdphblilenaa

set_option linter.unusedSimpArgs false
set_option linter.unusedVariables false
namespace Go.Proofs.Ytafbdphblilenaa
open Go.VL

/-! ### The plain law of lengths -/

/-- A pair of lengths, and whether no symbol is enough. -/
structure LR (nul : Bool) (p : Int × Int) : Prop where
  a0 : 0 ≤ p.1
  a1 : p.1 ≤ 1000000
  b0 : -1 ≤ p.2
  b1 : p.2 ≤ 1000000
  ab : p.2 = -1 ∨ p.1 ≤ p.2
  nl : nul = true ↔ p.1 = 0

theorem lplus_in {a b : Int} (h1 : -1 ≤ a ∧ a ≤ 1000000) (h2 : -1 ≤ b ∧ b ≤ 1000000) : lplus a b = if a < 0 ∨ b < 0 then -1 else min (a + b) 1000000 := by
  unfold lplus
  rw [w64 _ (by omega)]

theorem cat_step {na nk : Bool} {a k : Int × Int} (ha : LR na a) (hk : LR nk k) : LR (na && nk) (lplus a.1 k.1, lplus a.2 k.2) := by
  obtain ⟨a0, a1, b0, b1, ab, nl⟩ := ha
  obtain ⟨c0, c1, d0, d1, cd, nl'⟩ := hk
  have e1 : lplus a.1 k.1 = min (a.1 + k.1) 1000000 := by rw [lplus_in ⟨by omega, a1⟩ ⟨by omega, c1⟩, if_neg (by omega)]
  have e2 := lplus_in ⟨b0, b1⟩ ⟨d0, d1⟩
  refine ⟨?_, ?_, ?_, ?_, ?_, ?_⟩ <;> simp only [e1, e2]
  · omega
  · omega
  · split <;> omega
  · split <;> omega
  · split <;> omega
  · rw [Bool.and_eq_true, nl, nl']; omega

theorem cat_foldl : ∀ (l : List (Bool × (Int × Int))) (na : Bool) (a : Int × Int), LR na a → (∀ x ∈ l, LR x.1 x.2) →
    LR (na && (l.map (·.1)).all id) ((l.map (·.2)).foldl (fun a k => (lplus a.1 k.1, lplus a.2 k.2)) a)
  | [], na, a, h, _ => by simpa using h
  | x :: l, na, a, h, hl => by
    have := cat_foldl l (na && x.1) _ (cat_step h (hl x (by simp))) (fun y hy => hl y (by simp [hy]))
    simpa [Bool.and_assoc] using this

theorem alt_step {na nk : Bool} {a k : Int × Int} (ha : LR na a) (hk : LR nk k) : LR (na || nk) (altF a k) := by
  obtain ⟨a0, a1, b0, b1, ab, nl⟩ := ha
  obtain ⟨c0, c1, d0, d1, cd, nl'⟩ := hk
  refine ⟨?_, ?_, ?_, ?_, ?_, ?_⟩ <;> simp only [altF, lgreater]
  · omega
  · omega
  · split <;> omega
  · split <;> omega
  · split <;> omega
  · rw [Bool.or_eq_true, nl, nl']; omega

theorem alt_foldl : ∀ (l : List (Bool × (Int × Int))) (na : Bool) (a : Int × Int), LR na a → (∀ x ∈ l, LR x.1 x.2) →
    LR (na || (l.map (·.1)).any id) ((l.map (·.2)).foldl altF a)
  | [], na, a, h, _ => by simpa using h
  | x :: l, na, a, h, hl => by
    have := alt_foldl l (na || x.1) _ (alt_step h (hl x (by simp))) (fun y hy => hl y (by simp [hy]))
    simpa [Bool.or_assoc] using this

theorem altF_self {n : Bool} {k : Int × Int} (h : LR n k) : altF k k = k := by
  obtain ⟨a0, a1, b0, b1, ab, nl⟩ := h
  refine Prod.ext ?_ ?_ <;> simp only [altF, lgreater]
  · omega
  · split <;> omega

/-- A product of a length. -/
theorem lt_nn {b n : Int} (h0 : 0 ≤ b) (h1 : b ≤ 1000000) (n0 : 0 ≤ n) (n1 : n ≤ 1000000) : ltimes b n = min (b * n) 1000000 := by
  have hle : b * n ≤ 1000000 * 1000000 := Int.mul_le_mul h1 n1 n0 (by omega)
  have hge : 0 ≤ b * n := Int.mul_nonneg h0 n0
  unfold ltimes
  split
  · rename_i h
    rcases h with h | h <;> subst h <;> simp <;> omega
  · rw [if_neg (by omega), w64 _ (by omega)]

theorem lt_neg {n : Int} (n0 : 0 < n) : ltimes (-1) n = -1 := by
  unfold ltimes
  rw [if_neg (by omega), if_pos (by omega)]

theorem lt_any {b : Int} (h : ¬ b = 0) : ltimes b (-1) = -1 := by
  unfold ltimes
  rw [if_neg (by omega), if_pos (by omega)]

theorem lt_zero (b : Int) : ltimes b 0 = 0 := by simp [ltimes]
theorem lt_zero' (n : Int) : ltimes 0 n = 0 := by simp [ltimes]

theorem lt_range {b n : Int} (h0 : -1 ≤ b) (h1 : b ≤ 1000000) (n0 : 0 ≤ n) (n1 : n ≤ 1000000) : -1 ≤ ltimes b n ∧ ltimes b n ≤ 1000000 ∧ (0 ≤ b → 0 ≤ ltimes b n) := by
  by_cases hb : b = -1
  · subst hb
    by_cases hn : n = 0
    · subst hn; rw [lt_zero]; omega
    · rw [lt_neg (by omega)]; omega
  · rw [lt_nn (by omega) h1 n0 n1]
    have := Int.mul_nonneg (show 0 ≤ b by omega) n0
    omega

theorem lt_m1 {n : Int} (n0 : 0 ≤ n) : ltimes (-1) n = if n = 0 then 0 else -1 := by
  split
  · rename_i h; rw [h, lt_zero]
  · exact lt_neg (by omega)

theorem lt_add {b n m : Int} (h0 : -1 ≤ b) (h1 : b ≤ 1000000) (n0 : 0 ≤ n) (m0 : 0 ≤ m) (hs : n + m ≤ 1000000) : lplus (ltimes b n) (ltimes b m) = ltimes b (n + m) := by
  have r1 := lt_range h0 h1 n0 (by omega)
  have r2 := lt_range h0 h1 m0 (by omega)
  rw [lplus_in ⟨r1.1, r1.2.1⟩ ⟨r2.1, r2.2.1⟩]
  by_cases hb : b = -1
  · subst hb
    rw [lt_m1 n0, lt_m1 m0, lt_m1 (show 0 ≤ n + m by omega)]
    (repeat' split) <;> omega
  · rw [lt_nn (by omega) h1 n0 (by omega), lt_nn (by omega) h1 m0 (by omega), lt_nn (by omega) h1 (by omega) hs, Int.mul_add]
    have p1 := Int.mul_nonneg (show 0 ≤ b by omega) n0
    have p2 := Int.mul_nonneg (show 0 ≤ b by omega) m0
    rw [if_neg (by omega)]
    omega

theorem lt_one {b : Int} (h0 : -1 ≤ b) (h1 : b ≤ 1000000) : ltimes b 1 = b := by
  by_cases hb : b = -1
  · subst hb; exact lt_neg (by omega)
  · rw [lt_nn (by omega) h1 (by omega) (by omega)]; omega

/-! ### What the generator makes -/

def genB (re : Re) : Bool := decide (re.set.length ≤ 10 ∧ re.kids.length ≤ 4 ∧ 0 ≤ re.op ∧ re.op ≤ 11 ∧ (re.op = 4 → re.kids.length = 1 ∧ 0 ≤ re.mn ∧ re.mn ≤ 2 ∧ (re.mx = -1 ∨ (1 ≤ re.mx ∧ re.mx ≤ 3 ∧ re.mn ≤ re.mx))) ∧
  (re.op = 3 ∨ re.op = 10 ∨ re.op = 5 ∨ re.op = 9 → re.kids ≠ []))

theorem every_mono {p q : Re → Bool} (h : ∀ re, p re = true → q re = true) (re : Re) (hp : re.every p = true) : re.every q = true := by
  revert hp
  refine Re.ind (Q := fun re => re.every p = true → re.every q = true) (fun re ih hp => ?_) re
  obtain ⟨h1, h2⟩ := (Re.every_iff re).1 hp
  exact (Re.every_iff re).2 ⟨h re h1, fun k hk => ih k hk (h2 k hk)⟩

theorem gen_exq (re : Re) (h : re.every genB = true) : re.every exq = true := by
  refine every_mono (fun re h => ?_) re h
  have := of_decide_eq_true h
  refine decide_eq_true ?_
  refine ⟨by omega, by omega, fun o => ?_⟩
  have := this.2.2.2.2.1 o
  omega

theorem nul_lens (re : Re) (h : re.every genB = true) : LR re.anul re.lens := by
  revert h
  refine Re.ind (Q := fun re => re.every genB = true → LR re.anul re.lens) (fun re ih h => ?_) re
  obtain ⟨h1, h2⟩ := (Re.every_iff re).1 h
  obtain ⟨_, _, o0, o11, h4, hne⟩ := of_decide_eq_true h1
  have hk : ∀ k ∈ re.kids, LR k.anul k.lens := fun k hk => ih k hk (h2 k hk)
  have hp : ∀ x ∈ re.kids.map (fun k => (k.anul, k.lens)), LR x.1 x.2 := fun x hx => by
    obtain ⟨k, hk', rfl⟩ := List.mem_map.1 hx
    exact hk k hk'
  rw [Re.anul_eq, Re.lens_eq]
  have m1 : (re.kids.map (fun k => (k.anul, k.lens))).map (·.1) = re.kids.map Re.anul := by simp
  have m2 : (re.kids.map (fun k => (k.anul, k.lens))).map (·.2) = re.kids.map Re.lens := by simp
  have alt : re.kids ≠ [] → LR ((re.kids.map Re.anul).any id) (altL (re.kids.map Re.lens)) := fun hn => by
    obtain ⟨k, l, hkl⟩ := List.exists_cons_of_ne_nil hn
    have hkk := hk k (by rw [hkl]; simp)
    have := alt_foldl (l.map fun k => (k.anul, k.lens)) k.anul k.lens hkk (fun x hx => by
      obtain ⟨y, hy, rfl⟩ := List.mem_map.1 hx
      exact hk y (by rw [hkl]; simp [hy]))
    rw [hkl]
    simp only [List.map_cons, altL, altF_self hkk, List.any_cons, id_eq]
    simpa [List.map_map, Function.comp_def] using this
  have hop : re.op = 0 ∨ re.op = 1 ∨ re.op = 2 ∨ re.op = 3 ∨ re.op = 4 ∨ re.op = 5 ∨ re.op = 6 ∨ re.op = 7 ∨ re.op = 8 ∨ re.op = 9 ∨ re.op = 10 ∨ re.op = 11 := by omega
  have zz : LR true (0, 0) := ⟨by decide, by decide, by decide, by decide, .inr (by decide), by decide⟩
  rcases hop with o | o | o | o | o | o | o | o | o | o | o | o
  · rw [o]; exact zz
  · have one : LR false (1, 1) := ⟨by decide, by decide, by decide, by decide, .inr (by decide), by decide⟩
    rw [o]; exact one
  · have := cat_foldl _ true (0, 0) zz hp
    rw [m1, m2, Bool.true_and] at this
    rw [o]; exact this
  · have := alt (hne (.inl o))
    rw [o]; exact this
  · obtain ⟨q1, q2, q3, q4⟩ := h4 o
    have := alt (by intro he; rw [he] at q1; cases q1)
    rw [o]
    simp only [anulOp, lensOp]
    generalize altL (re.kids.map Re.lens) = p at *
    generalize (re.kids.map Re.anul).any id = na at *
    obtain ⟨a0, a1, b0, b1, ab, nl⟩ := this
    have e1 := lt_nn a0 a1 q2 (by omega)
    have e2 : 0 ≤ p.1 * re.mn := Int.mul_nonneg a0 q2
    simp only [reduceCtorEq, Int.reduceEq, if_false, false_or, or_false, or_self, if_true, true_or, or_true]
    have key : (ltimes p.2 re.mx = -1 ∨ (0 ≤ ltimes p.2 re.mx ∧ ltimes p.1 re.mn ≤ ltimes p.2 re.mx)) ∧ ltimes p.2 re.mx ≤ 1000000 := by
      by_cases hm : re.mx = -1
      · rw [hm]
        by_cases hb : p.2 = 0
        · have ha : p.1 = 0 := by omega
          rw [hb, ha, lt_zero', lt_zero']; omega
        · rw [lt_any hb]; omega
      · have q5 : 1 ≤ re.mx ∧ re.mx ≤ 3 ∧ re.mn ≤ re.mx := by omega
        by_cases hb : p.2 = -1
        · rw [hb, lt_neg (by omega)]; omega
        · rw [lt_nn (by omega) b1 (by omega) (by omega), e1]
          have : p.1 * re.mn ≤ p.2 * re.mx := Int.mul_le_mul (by omega) q5.2.2 q2 (by omega)
          have := Int.mul_nonneg (show 0 ≤ p.2 by omega) (show 0 ≤ re.mx by omega)
          omega
    refine ⟨?_, ?_, ?_, key.2, ?_, ?_⟩ <;> simp only
    · rw [e1]; omega
    · rw [e1]; omega
    · omega
    · omega
    · rw [e1]
      split
      · rename_i hm
        rw [hm, Int.mul_zero]; exact ⟨fun _ => by omega, fun _ => rfl⟩
      · rename_i hm
        rw [nl]
        constructor
        · intro hz; rw [hz, Int.zero_mul]; omega
        · intro hz
          by_cases hz' : p.1 = 0
          · exact hz'
          · have : 0 < p.1 * re.mn := Int.mul_pos (by omega) (by omega)
            omega
  · have := alt (hne (.inr (.inr (.inl o))))
    rw [o]; exact this
  · have far : LR true (0, -1) := ⟨by decide, by decide, by decide, by decide, .inl (by decide), by decide⟩
    rw [o]; exact far
  · rw [o]; exact zz
  · rw [o]; exact zz
  · have := alt (hne (.inr (.inr (.inr o))))
    rw [o]; exact this
  · have := alt (hne (.inr (.inl o)))
    rw [o]; exact this
  · rw [o]; exact zz

/-! ### Expanding keeps the lengths -/

theorem cat_one {n : Bool} {p : Int × Int} (h : LR n p) : catL [p] = p := by
  obtain ⟨a0, a1, b0, b1, ab, nl⟩ := h
  refine Prod.ext ?_ ?_ <;> simp only [catL, List.foldl_cons, List.foldl_nil]
  · rw [lplus_in ⟨by omega, by omega⟩ ⟨by omega, a1⟩, if_neg (by omega)]; omega
  · rw [lplus_in ⟨by omega, by omega⟩ ⟨b0, b1⟩]; split <;> omega

theorem join_lens {l : List Re} (h : ∀ x ∈ l, ∃ n, LR n x.lens) : (joinR l).lens = catL (l.map Re.lens) := by
  unfold joinR
  split
  · rename_i x
    obtain ⟨n, hx⟩ := h x (by simp)
    rw [List.map_cons, List.map_nil, cat_one hx]
  · rw [Re.lens_eq]; rfl

theorem rept_lens {x : Re} {n : Bool} (hx : LR n x.lens) (most mode : Int) : (rept x most mode).lens = (0, ltimes x.lens.2 most) := by
  rw [Re.lens_eq]
  show (ltimes (altL [x.lens]).1 0, ltimes (altL [x.lens]).2 most) = _
  rw [altL_one, altF_self hx, lt_zero]

theorem rest_lens {x : Re} {n : Bool} (hx : LR n x.lens) (mode : Int) (j : Nat) : (j : Int) ≤ 1000 → (restR mode x j).lens = (0, ltimes x.lens.2 ((j : Int) + 1)) ∧ LR true (restR mode x j).lens := by
  induction j with
  | zero =>
    intro _
    have h := rept_lens hx 1 mode
    have e : (restR mode x 0).lens = (0, ltimes x.lens.2 1) := h
    refine ⟨by rw [e, show (((0 : Nat) : Int) + 1) = 1 by omega], ?_⟩
    rw [e, lt_one hx.b0 hx.b1]
    exact ⟨(by show (0 : Int) ≤ 0; omega), (by show (0 : Int) ≤ 1000000; omega), hx.b0, hx.b1, by have := hx.ab; have := hx.a0; simp only; omega, by simp⟩
  | succ j ih =>
    intro hj
    obtain ⟨h1, h2⟩ := ih (by omega)
    have hj' : (joinR [x, restR mode x j]).lens = (lplus (lplus 0 x.lens.1) 0, lplus (lplus 0 x.lens.2) (ltimes x.lens.2 (j + 1))) := by
      rw [join_lens (fun y hy => by
        rcases List.mem_cons.1 hy with rfl | hy
        · exact ⟨_, hx⟩
        · rw [List.mem_singleton.1 hy]; exact ⟨_, h2⟩)]
      simp only [List.map_cons, List.map_nil, catL, List.foldl_cons, List.foldl_nil, h1]
    have o1 := cat_one hx
    have o2 : lplus 0 x.lens.2 = x.lens.2 := by have := congrArg Prod.snd o1; simpa [catL] using this
    have o3 : lplus 0 x.lens.1 = x.lens.1 := by have := congrArg Prod.fst o1; simpa [catL] using this
    have o4 : lplus x.lens.1 0 = x.lens.1 := by rw [lplus_in ⟨by have := hx.a0; omega, hx.a1⟩ ⟨by omega, by omega⟩, if_neg (by have := hx.a0; omega)]; have := hx.a0; have := hx.a1; omega
    have o5 : lplus x.lens.2 (ltimes x.lens.2 (j + 1)) = ltimes x.lens.2 ((j + 1 : Nat) + 1) := by
      have := lt_add hx.b0 hx.b1 (n := 1) (m := (j : Int) + 1) (by omega) (by omega) (by omega)
      rw [lt_one hx.b0 hx.b1] at this
      rw [this]; congr 1; omega
    rw [o2, o3, o4, o5] at hj'
    have rg := lt_range hx.b0 hx.b1 (n := ((j + 1 : Nat) : Int) + 1) (by omega) (by omega)
    have hcat : LR (n && true) (joinR [x, restR mode x j]).lens := by
      rw [join_lens (fun y hy => by
        rcases List.mem_cons.1 hy with rfl | hy
        · exact ⟨_, hx⟩
        · rw [List.mem_singleton.1 hy]; exact ⟨_, h2⟩)]
      have := cat_foldl [(n, x.lens), (true, (restR mode x j).lens)] true (0, 0) ⟨by decide, by decide, by decide, by decide, .inr (by decide), by decide⟩ (fun y hy => by
        rcases List.mem_cons.1 hy with rfl | hy
        · exact hx
        · rw [List.mem_singleton.1 hy]; exact h2)
      simpa [catL] using this
    have e : (restR mode x (j + 1)).lens = (0, ltimes (joinR [x, restR mode x j]).lens.2 1) := rept_lens hcat 1 mode
    rw [lt_one hcat.b0 hcat.b1, hj'] at e
    refine ⟨e, ?_⟩
    rw [e]
    exact ⟨(by show (0 : Int) ≤ 0; omega), (by show (0 : Int) ≤ 1000000; omega), rg.1, rg.2.1, by have := rg.2.2; simp only; by_cases hb : 0 ≤ x.lens.2; exact .inr (this hb); (left; rw [show x.lens.2 = -1 by have := hx.b0; omega]; exact lt_neg (by omega)), by simp⟩

theorem cat_rep {n : Bool} {p : Int × Int} (h : LR n p) (k : Nat) : (k : Int) ≤ 1000 → catL (List.replicate k p) = (ltimes p.1 k, ltimes p.2 k) := by
  induction k with
  | zero => intro _; simp [catL, lt_zero]
  | succ k ih =>
    intro hk
    have a0 := h.a0
    rw [List.replicate_succ', catL_snoc, ih (by omega)]
    have e1 := lt_add (b := p.1) (by omega) h.a1 (n := k) (m := 1) (by omega) (by omega) (by omega)
    have e2 := lt_add (b := p.2) h.b0 h.b1 (n := k) (m := 1) (by omega) (by omega) (by omega)
    rw [lt_one (by omega) h.a1] at e1
    rw [lt_one h.b0 h.b1] at e2
    rw [show ((k + 1 : Nat) : Int) = (k : Int) + 1 by omega]
    simp only [e1, e2]

theorem unroll_lens {re x : Re} {n : Bool} (hx : LR n x.lens) (h0 : 0 ≤ re.mn) (h1 : re.mn ≤ 2) (h2 : re.mx = -1 ∨ (1 ≤ re.mx ∧ re.mx ≤ 3 ∧ re.mn ≤ re.mx)) : (unrollR re x).lens = (ltimes x.lens.1 re.mn, ltimes x.lens.2 re.mx) := by
  have a0 := hx.a0
  have a1 := hx.a1
  have b0 := hx.b0
  have b1 := hx.b1
  have hm : (re.mn.toNat : Int) = re.mn := Int.toNat_of_nonneg h0
  have hrep := cat_rep hx re.mn.toNat (by omega)
  rw [hm] at hrep
  have r1 := lt_range (b := x.lens.1) (by omega) a1 h0 (by omega)
  have r2 := lt_range (b := x.lens.2) b0 b1 h0 (by omega)
  have p0 : lplus (ltimes x.lens.1 re.mn) 0 = ltimes x.lens.1 re.mn := by
    have := r1.2.2 a0
    rw [lplus_in ⟨r1.1, r1.2.1⟩ ⟨by omega, by omega⟩, if_neg (by omega)]; omega
  have mem : ∀ l : List Re, (∀ y ∈ l, ∃ k, LR k y.lens) → ∀ y ∈ List.replicate re.mn.toNat x ++ l, ∃ k, LR k y.lens := fun l hl y hy => by
    rcases List.mem_append.1 hy with hy | hy
    · rw [(List.mem_replicate.1 hy).2]; exact ⟨_, hx⟩
    · exact hl y hy
  unfold unrollR
  by_cases hm1 : re.mx = -1
  · rw [if_pos hm1]
    have er := rept_lens hx (-1) re.mode
    rw [join_lens (mem _ (fun y hy => by
      rw [List.mem_singleton.1 hy, er]
      refine ⟨true, (by show (0 : Int) ≤ 0; omega), (by show (0 : Int) ≤ 1000000; omega), ?_, ?_, ?_, by simp⟩ <;> simp only
      all_goals
        by_cases hb : x.lens.2 = 0
        · rw [hb, lt_zero']; simp
        · rw [lt_any hb]; simp))]
    rw [List.map_append, List.map_replicate, List.map_cons, List.map_nil, catL_snoc, hrep, er, hm1]
    simp only [p0]
    congr 1
    by_cases hb : x.lens.2 = 0
    · rw [hb, lt_zero', lt_zero', lplus_in (by omega) (by omega)]; simp; omega
    · rw [lt_any hb, lplus_in ⟨r2.1, r2.2.1⟩ (by omega), if_pos (by omega)]
  · rw [if_neg hm1]
    obtain ⟨q1, q2, q3⟩ : 1 ≤ re.mx ∧ re.mx ≤ 3 ∧ re.mn ≤ re.mx := by omega
    by_cases hm2 : re.mn < re.mx
    · rw [if_pos hm2]
      have hd : ((re.mx - re.mn - 1).toNat : Int) = re.mx - re.mn - 1 := Int.toNat_of_nonneg (by omega)
      obtain ⟨er, hr⟩ := rest_lens hx re.mode (re.mx - re.mn - 1).toNat (by omega)
      rw [hd] at er
      rw [join_lens (mem _ (fun y hy => by rw [List.mem_singleton.1 hy]; exact ⟨_, hr⟩))]
      rw [List.map_append, List.map_replicate, List.map_cons, List.map_nil, catL_snoc, hrep, er]
      simp only [p0]
      congr 1
      rw [lt_add b0 b1 h0 (by omega) (by omega)]
      congr 1; omega
    · rw [if_neg hm2]
      have he : re.mx = re.mn := by omega
      rw [join_lens (mem [] (fun y hy => by cases hy)), List.append_nil, List.map_replicate, hrep, he]

theorem exp_lens (re : Re) (h : re.every genB = true) : re.exp.lens = re.lens := by
  revert h
  refine Re.ind (Q := fun re => re.every genB = true → re.exp.lens = re.lens) (fun re ih h => ?_) re
  obtain ⟨h1, h2⟩ := (Re.every_iff re).1 h
  obtain ⟨_, _, o0, o11, h4, hne⟩ := of_decide_eq_true h1
  by_cases hk : re.op = 4 ∧ re.kept = false
  · obtain ⟨q1, q2, q3, q4⟩ := h4 hk.1
    obtain ⟨k, hk1⟩ : ∃ k, re.kids = [k] := List.length_eq_one_iff.1 q1
    have hkm : k ∈ re.kids := by rw [hk1]; simp
    have hkl := ih k hkm (h2 k hkm)
    have hlr := nul_lens k (h2 k hkm)
    rw [Re.exp_un hk.1 hk.2 hk1, unroll_lens (n := k.anul) (by rw [hkl]; exact hlr) q2 q3 q4, hkl, Re.lens_eq re, hk1, hk.1]
    show _ = (ltimes (altL [k.lens]).1 re.mn, ltimes (altL [k.lens]).2 re.mx)
    rw [altL_one, altF_self hlr]
  · rw [Re.exp_keep (by
      by_cases o : re.op = 4
      · right; cases hkk : re.kept with
        | true => rfl
        | false => exact absurd ⟨o, hkk⟩ hk
      · exact .inl o), Re.lens_eq, Re.lens_eq re]
    show lensOp re.op re.mn re.mx ((re.kids.map Re.exp).map Re.lens) = _
    rw [List.map_map]
    congr 1
    exact List.map_congr_left fun k hk' => ih k hk' (h2 k hk')

end Go.Proofs.Ytafbdphblilenaa

set_option linter.unusedSimpArgs false
set_option linter.unusedVariables false
namespace Go.Proofs.Ytafbdphblilenaa
open Go.VL

/-! ### All that the maker makes is well formed -/

theorem every_mk {p : Re → Bool} {op mn mx mode n : Int} {set : List (Int × Int)} {kids : List Re} {neg : Bool} (h : p (.mk op set kids mn mx mode n neg) = true) (hk : ∀ k ∈ kids, k.every p = true) : (Re.mk op set kids mn mx mode n neg).every p = true :=
  (Re.every_iff _).2 ⟨h, hk⟩

theorem set_gen (m : Mk) : m.set.1.every genB = true := by
  have hl : ∀ i : Nat, ((setSpans[i]?).getD []).length ≤ 10 := by
    intro i
    by_cases hi : i < 8
    · have : ∀ i, i < 8 → ((setSpans[i]?).getD []).length ≤ 10 := by decide
      exact this i hi
    · rw [List.getElem?_eq_none (by simp [setSpans]; omega)]; simp
  refine every_mk (decide_eq_true ?_) (fun k hk => by cases hk)
  refine ⟨hl _, by simp [Re.kids], ?_, ?_, ?_, ?_⟩ <;> simp [Re.op]

theorem kidsFrom_gen {t : Mk → Re × Mk} (ht : ∀ m, (t m).1.every genB = true) : ∀ (f : Nat) (i : Int) (m : Mk), (∀ k ∈ (kidsFrom t f i m).1, k.every genB = true) ∧ (kidsFrom t f i m).1.length ≤ f
  | 0, i, m => by simp [kidsFrom]
  | f + 1, i, m => by
    simp only [kidsFrom]
    split
    · obtain ⟨h1, h2⟩ := kidsFrom_gen ht f (i + 1) (t (m.next 2).2).2
      refine ⟨fun k hk => ?_, by simp; omega⟩
      rcases List.mem_cons.1 hk with rfl | hk
      · exact ht _
      · exact h1 k hk
    · simp

theorem kidsFrom_ne {t : Mk → Re × Mk} (m : Mk) : (kidsFrom t 4 0 m).1 ≠ [] := by
  have hp := pick_range m.l m.pos 2 (by omega)
  rw [kidsFrom, if_pos (by simp only [Mk.next]; omega)]
  simp

theorem one_gen {op mn mx mode n : Int} {neg : Bool} {k : Re} (hk : k.every genB = true) (h0 : 0 ≤ op) (h1 : op ≤ 11) (h4 : op = 4 → 0 ≤ mn ∧ mn ≤ 2 ∧ (mx = -1 ∨ (1 ≤ mx ∧ mx ≤ 3 ∧ mn ≤ mx))) : (Re.mk op [] [k] mn mx mode n neg).every genB = true := by
  refine every_mk (decide_eq_true ⟨by simp [Re.set], by simp [Re.kids], h0, h1, fun h => ⟨rfl, h4 h⟩, fun _ => by simp [Re.kids]⟩) (fun y hy => ?_)
  rw [List.mem_singleton.1 hy]; exact hk

theorem nil_gen {op mn mx mode n : Int} {neg : Bool} (h0 : 0 ≤ op) (h1 : op ≤ 11) (h : op ≠ 4 ∧ op ≠ 3 ∧ op ≠ 10 ∧ op ≠ 5 ∧ op ≠ 9) : (Re.mk op [] [] mn mx mode n neg).every genB = true := by
  refine every_mk (decide_eq_true ⟨by simp [Re.set], by simp [Re.kids], h0, h1, fun h' => absurd h' h.1, fun h' => ?_⟩) (fun y hy => by cases hy)
  obtain ⟨_, a, b, c, d⟩ := h
  simp only [Re.op] at h'
  rcases h' with h' | h' | h' | h'
  · exact absurd h' a
  · exact absurd h' b
  · exact absurd h' c
  · exact absurd h' d

theorem repKid_gen {t : Mk → Re × Mk} (ht : ∀ m, (t m).1.every genB = true) (m : Mk) : (repKid t m).1.every genB = true := by
  unfold repKid
  simp only
  split
  · exact set_gen _
  · exact ht _

theorem rep_gen {t : Mk → Re × Mk} (ht : ∀ m, (t m).1.every genB = true) (m : Mk) : (m.rep t).1.every genB = true := by
  simp only [Mk.rep]
  have hk := pick_range m.l m.pos 12 (by omega)
  refine one_gen (repKid_gen ht _) (by omega) (by omega) (fun _ => ?_)
  have key : ∀ i : Nat, i < 12 → 0 ≤ (repMins[i]?).getD 0 ∧ (repMins[i]?).getD 0 ≤ 2 ∧ ((repMaxs[i]?).getD 0 = -1 ∨ (1 ≤ (repMaxs[i]?).getD 0 ∧ (repMaxs[i]?).getD 0 ≤ 3 ∧ (repMins[i]?).getD 0 ≤ (repMaxs[i]?).getD 0)) := by decide
  exact key (pick m.l m.pos 12).toNat (by omega)

theorem node_gen {t : Mk → Re × Mk} (ht : ∀ m, (t m).1.every genB = true) (k : Int) (m : Mk) : (Mk.node t k m).1.every genB = true := by
  obtain ⟨k1, k2⟩ := kidsFrom_gen ht 4 0 m
  have kn := kidsFrom_ne (t := t) m
  have kids : ∀ op : Int, (op = 2 ∨ op = 3) → (Re.node op (kidsFrom t 4 0 m).1).every genB = true := fun op h =>
    every_mk (decide_eq_true ⟨by simp [Re.set], k2, by simp only [Re.op]; omega, by simp only [Re.op]; omega, fun h' => by simp only [Re.op] at h'; omega, fun _ => kn⟩) k1
  unfold Mk.node
  split
  · exact kids 2 (.inl rfl)
  split
  · exact kids 3 (.inr rfl)
  split
  · exact rep_gen ht m
  split
  · exact one_gen (ht _) (by omega) (by omega) (fun h => by omega)
  split
  · exact one_gen (ht _) (by omega) (by omega) (fun h => by omega)
  split
  · exact nil_gen (by omega) (by omega) (by decide)
  split
  · have hp := pick_range (m.next 3).2.l (m.next 3).2.pos 2 (by omega)
    refine one_gen (ht _) ?_ ?_ (fun h => ?_) <;> simp only [Mk.next] at * <;> omega
  split
  · exact one_gen (ht _) (by omega) (by omega) (fun h => by omega)
  split
  · exact nil_gen (by omega) (by omega) (by decide)
  split
  · refine every_mk (decide_eq_true ⟨by simp [Re.set], by simp [Re.kids], by simp [Re.op], by simp [Re.op], fun h => by simp [Re.op] at h, fun _ => by simp [Re.kids]⟩) (fun y hy => ?_)
    rcases List.mem_cons.1 hy with rfl | hy
    · exact ht _
    · rw [List.mem_singleton.1 hy]; exact ht _
  · exact set_gen m

theorem tree_gen : ∀ (d : Nat) (m : Mk), (Mk.tree d m).1.every genB = true
  | 0, m => by
    simp only [Mk.tree]
    split
    · exact nil_gen (by omega) (by omega) (by decide)
    · exact set_gen _
  | d + 1, m => by
    simp only [Mk.tree]
    split
    · split
      · exact nil_gen (by omega) (by omega) (by decide)
      · exact set_gen _
    · exact node_gen (tree_gen d) _ _

theorem pat_gen (l : List Int) (uses most : Int) : (patOf l uses most).re.every genB = true := tree_gen 5 _

/-! ### The law -/

theorem around_range (n m : Int) (hm : 1 ≤ m) (hn : I64 n) : 0 ≤ around n m ∧ around n m < m := by
  unfold I64 at hn
  unfold around
  split
  · exact ⟨Int.tmod_nonneg _ (by omega), Int.tmod_lt_of_pos _ (by omega)⟩
  · exact ⟨Int.tmod_nonneg _ (by omega), Int.tmod_lt_of_pos _ (by omega)⟩

theorem expandR_cases (re : Re) (h : re.every exq = true) : (expandR re = (re.exp, 0) ∧ re.exp.fine = true) ∨ expandR re = (zeroR, 10) ∨ expandR re = (zeroR, 4) := by
  unfold expandR
  cases hx : re.exa with
  | false => right; left; rfl
  | true =>
    rw [if_neg (by decide)]
    split
    · right; right; rfl
    · exact .inl ⟨rfl, (exp_both re h hx).1⟩

set_option maxRecDepth 100000 in
set_option maxHeartbeats 8000000 in
theorem astLengths_ok (l : List Int) (uses : Int) (hl : ∀ x ∈ l, I64 x) (hu : I64 uses) : PureOK Try.prog 3 [.d (intsD l), i64 uses] (bV true) := by
  have hg := pat_gen l (around uses 128) 20
  have hpat := pattern_ok l (around uses 128) 20 hl (by omega) (by omega)
  have hq := gen_exq _ hg
  have hf := fine_of_exq _ hq
  have hlr := nul_lens _ hg
  have hexp := exp_lens _ hg
  have hlen := lengths_ok (patOf l (around uses 128) 20).re hf
  have hnul := nullable_ok (patOf l (around uses 128) 20).re hf
  have hex := expand_ok (patOf l (around uses 128) 20).re hq
  generalize patOf l (around uses 128) 20 = p at *
  obtain ⟨a0, a1, b0, b1, ab, nl⟩ := hlr
  have hab : p.re.anul = decide (p.re.lens.1 = 0) := by
    cases h : p.re.anul with
    | true => exact (decide_eq_true (nl.1 h)).symm
    | false => refine (decide_eq_false fun h' => ?_).symm; rw [nl.2 h'] at h; cases h
  rw [hab] at hnul
  obtain ⟨x, e, hxe, hle⟩ : ∃ x e, expandR p.re = (x, e) ∧ ((e = 0 ∧ PureOK Try.prog 14 [reV x] (.tu [i64 p.re.lens.1, i64 p.re.lens.2])) ∨ ((e = 10 ∨ e = 4) ∧ PureOK Try.prog 14 [reV x] (.tu [i64 0, i64 0]))) := by
    have z := lengths_ok zeroR (by decide)
    rw [show zeroR.lens = (0, 0) by decide] at z
    rcases expandR_cases p.re hq with ⟨h, hfx⟩ | h | h
    · refine ⟨_, _, h, .inl ⟨rfl, ?_⟩⟩
      have := lengths_ok p.re.exp hfx
      rwa [hexp] at this
    · exact ⟨_, _, h, .inr ⟨.inl rfl, z⟩⟩
    · exact ⟨_, _, h, .inr ⟨.inr rfl, z⟩⟩
  rw [hxe] at hex
  have hlv := lives_ok
  refine fn_ok Try.func3 rfl Try.ntmps3 Try.results3 rfl 0 4083 (by simp) (by simp) ?_
  simp only [vsA, vsB, vsC, appendWp, Nat.reduceShiftRight, Nat.reduceMod, Nat.reduceLT, Nat.reduceMul, Nat.reduceSub, Int.reduceToNat, Int.reduceNeg, Int.reduceLT, Int.reduceLE, Int.reduceEq, Nat.reduceEqDiff, Nat.reduceAdd, Nat.reduceLeDiff, reduceIte, reduceCtorEq, Nat.reduceBEq, tysA, i64]
  refine call_pure (around_ok uses 128 (by omega) hu) rfl rfl ?_
  simp only [vsA, vsB, vsC, appendWp, Nat.reduceShiftRight, Nat.reduceMod, Nat.reduceLT, Nat.reduceMul, Nat.reduceSub, Int.reduceToNat, Int.reduceNeg, Int.reduceLT, Int.reduceLE, Int.reduceEq, Nat.reduceEqDiff, Nat.reduceAdd, Nat.reduceLeDiff, reduceIte, reduceCtorEq, Nat.reduceBEq, tysA, i64]
  refine call_pure hpat rfl (by simp [refsV, refsV.go, patV, reV_eq, Re.cells_eq, i64, bV]) ?_
  simp only [vsA, vsB, vsC, appendWp, Nat.reduceShiftRight, Nat.reduceMod, Nat.reduceLT, Nat.reduceMul, Nat.reduceSub, Int.reduceToNat, Int.reduceNeg, Int.reduceLT, Int.reduceLE, Int.reduceEq, Nat.reduceEqDiff, Nat.reduceAdd, Nat.reduceLeDiff, reduceIte, reduceCtorEq, Nat.reduceBEq, tysA, i64, patV, bV, take_cells_app, drop_cells_app, List.length_append]
  refine call_pure hlen (by simp [refsV, refsV.go, reV_eq, i64, bV, reEl]) rfl ?_
  simp only [vsA, vsB, vsC, appendWp, Nat.reduceShiftRight, Nat.reduceMod, Nat.reduceLT, Nat.reduceMul, Nat.reduceSub, Int.reduceToNat, Int.reduceNeg, Int.reduceLT, Int.reduceLE, Int.reduceEq, Nat.reduceEqDiff, Nat.reduceAdd, Nat.reduceLeDiff, reduceIte, reduceCtorEq, Nat.reduceBEq, tysA, i64, patV, bV, take_cells_app, drop_cells_app, List.length_append]
  refine call_pure hnul (by simp [refsV, refsV.go, reV_eq, i64, bV, reEl]) rfl ?_
  have hlt : p.re.lens.2 = -1 ∨ ¬ p.re.lens.2 < p.re.lens.1 := by omega
  by_cases hb : p.re.lens.2 = -1
  all_goals
    by_cases hz : p.re.lens.1 = 0
    all_goals
      have hlt0 : p.re.lens.2 = -1 ∨ ¬ p.re.lens.2 < 0 := by omega
      simp only [hb, Int.reduceNeg, false_or] at hlt hlt0
      simp only [vsA, vsB, vsC, appendWp, Nat.reduceShiftRight, Nat.reduceMod, Nat.reduceLT, Nat.reduceMul, Nat.reduceSub, Int.reduceToNat, Int.reduceNeg, Int.reduceLT, Int.reduceLE, Int.reduceEq, Nat.reduceEqDiff, Nat.reduceAdd, Nat.reduceLeDiff, reduceIte, reduceCtorEq, Nat.reduceBEq, tysA, i64, patV, bV, take_cells_app, drop_cells_app, List.length_append, hz, hb, hlt, hlt0, beq_self_eq_true]
      refine call_pure hex (by simp [refsV, refsV.go, reV_eq, i64, bV, reEl]) (by simp [refsV, refsV.go, reV_eq, i64, bV, reEl]) ?_
      rcases hle with ⟨rfl, hle⟩ | ⟨rfl | rfl, hle⟩
      all_goals
        simp only [vsA, vsB, vsC, appendWp, Nat.reduceShiftRight, Nat.reduceMod, Nat.reduceLT, Nat.reduceMul, Nat.reduceSub, Int.reduceToNat, Int.reduceNeg, Int.reduceLT, Int.reduceLE, Int.reduceEq, Nat.reduceEqDiff, Nat.reduceAdd, Nat.reduceLeDiff, reduceIte, reduceCtorEq, Nat.reduceBEq, tysA, i64, patV, bV, take_cells_app, drop_cells_app, List.length_append, hz, hb, hlt, hlt0, beq_self_eq_true]
        refine call_pure hle (by simp [refsV, refsV.go, reV_eq, i64, bV, reEl]) rfl ?_
        simp only [vsA, vsB, vsC, appendWp, Nat.reduceShiftRight, Nat.reduceMod, Nat.reduceLT, Nat.reduceMul, Nat.reduceSub, Int.reduceToNat, Int.reduceNeg, Int.reduceLT, Int.reduceLE, Int.reduceEq, Nat.reduceEqDiff, Nat.reduceAdd, Nat.reduceLeDiff, reduceIte, reduceCtorEq, Nat.reduceBEq, tysA, i64, patV, bV, take_cells_app, drop_cells_app, List.length_append, hz, hb, hlt, hlt0, beq_self_eq_true]
        refine call_pure hlv rfl rfl ?_
        simp only [vsA, vsB, vsC, appendWp, Nat.reduceShiftRight, Nat.reduceMod, Nat.reduceLT, Nat.reduceMul, Nat.reduceSub, Int.reduceToNat, Int.reduceNeg, Int.reduceLT, Int.reduceLE, Int.reduceEq, Nat.reduceEqDiff, Nat.reduceAdd, Nat.reduceLeDiff, reduceIte, reduceCtorEq, Nat.reduceBEq, tysA, i64, patV, bV, take_cells_app, drop_cells_app, List.length_append, hz, hb, hlt, hlt0, beq_self_eq_true]
        all_goals first | exact ⟨rfl, rfl⟩ | exact ⟨rfl, trivial⟩ | rfl | trivial | (rw [reV_eq]; rfl)

end Go.Proofs.Ytafbdphblilenaa

set_option linter.unusedSimpArgs false
set_option linter.unusedVariables false
namespace Go.Proofs.Ytafbdphblilenaa
open Go.VL

/-! ### All that the maker makes is valid -/

theorem nodeOk_iff {re : Re} {caps top : Int} : nodeOk re caps top = true ↔
    (0 ≤ re.op ∧ re.op ≤ 11 ∧ (kidsR re.op).1 ≤ re.kids.length ∧ ((kidsR re.op).2 < 0 ∨ (re.kids.length : Int) ≤ (kidsR re.op).2)) ∧
    (if re.op = 1 then spansR re.set top = true else re.set.length = 0) ∧
    (if re.op = 4 then (0 ≤ re.mn ∧ re.mn ≤ 32 ∧ -1 ≤ re.mx ∧ re.mx ≠ 0 ∧ re.mx ≤ 32 ∧ (0 < re.mx → re.mn ≤ re.mx) ∧ 0 ≤ re.mode ∧ re.mode ≤ 2) else (re.mn = 0 ∧ re.mx = 0 ∧ re.mode = 0)) ∧
    (if re.op = 5 ∨ re.op = 6 ∨ re.op = 10 then (1 ≤ re.n ∧ re.n ≤ caps) else if re.op = 11 then (0 ≤ re.n ∧ re.n ≤ 5) else re.n = 0) ∧
    (re.neg = true → re.op = 7 ∨ re.op = 8) := by
  unfold nodeOk
  simp only [Bool.and_eq_true, decide_eq_true_eq]
  refine and_congr Iff.rfl (and_congr ?_ (and_congr ?_ (and_congr ?_ ?_)))
  · split <;> simp
  · split <;> simp only [decide_eq_true_eq]
  · split
    · simp only [decide_eq_true_eq]
    · split <;> simp only [decide_eq_true_eq]
  · cases re.neg <;> simp

theorem nodeOk_mono {re : Re} {caps caps' top : Int} (h : caps ≤ caps') (hn : nodeOk re caps top = true) : nodeOk re caps' top = true := by
  rw [nodeOk_iff] at *
  obtain ⟨a, b, c, d, e⟩ := hn
  refine ⟨a, b, c, ?_, e⟩
  split
  · rename_i hh; rw [if_pos hh] at d; omega
  · rename_i hh; rw [if_neg hh] at d; exact d

theorem whole_mono {re : Re} {caps caps' top : Int} (h : caps ≤ caps') (hn : re.whole caps top = true) : re.whole caps' top = true :=
  every_mono' (fun r hr => nodeOk_mono h hr) re hn

theorem whole_mk {op mn mx mode n caps top : Int} {set : List (Int × Int)} {kids : List Re} {neg : Bool} (h : nodeOk (.mk op set kids mn mx mode n neg) caps top = true) (hk : ∀ k ∈ kids, k.whole caps top = true) : (Re.mk op set kids mn mx mode n neg).whole caps top = true :=
  (Re.every_iff _).2 ⟨h, hk⟩

theorem Re.depth_mk {op mn mx mode n : Int} {set : List (Int × Int)} {kids : List Re} {neg : Bool} {b : Int} (hb : 0 ≤ b) (hk : ∀ k ∈ kids, k.depth ≤ b) : (Re.mk op set kids mn mx mode n neg).depth ≤ b + 1 := by
  rw [Re.depth_eq]
  have := foldl_max_le (b := b) (kids.map Re.depth) 0 hb (fun x hx => by obtain ⟨k, hk', rfl⟩ := List.mem_map.1 hx; exact hk k hk')
  show maxL (kids.map Re.depth) + 1 ≤ _
  unfold maxL
  omega

structure TOK (d : Nat) (m : Mk) (x : Re × Mk) : Prop where
  caps : m.caps ≤ x.2.caps
  ok : x.1.whole x.2.caps 255 = true
  dep : x.1.depth ≤ d + 1
  size : (x.1.size : Int) ≤ m.left - x.2.left
  low : m.left ≤ 3 → m.left - 1 ≤ x.2.left
  high : 4 ≤ m.left → 2 - 4 * (d : Int) ≤ x.2.left

/-- What a maker of trees of depth d keeps. -/
structure TT (d : Nat) (t : Mk → Re × Mk) (c z : Int) : Prop where
  good : Good t c z
  c0 : 0 ≤ c
  z1 : 1 ≤ z
  tok : ∀ m b, 0 ≤ b → Mk.In m b → TOK d m (t m)

theorem TOK.one {d : Nat} {m : Mk} {x : Re × Mk} (h : TOK d m x) {B : Int} (h1 : B ≤ 2 - 4 * (d : Int)) (h2 : B ≤ m.left) : B - 1 ≤ x.2.left := by
  have := h.low; have := h.high
  omega

structure FOK (d f : Nat) (m : Mk) (x : List Re × Mk) : Prop where
  caps : m.caps ≤ x.2.caps
  ok : ∀ k ∈ x.1, k.whole x.2.caps 255 = true
  dep : ∀ k ∈ x.1, k.depth ≤ d + 1
  size : (Re.sizeL x.1 : Int) ≤ m.left - x.2.left
  bnd : ∀ B : Int, B ≤ 2 - 4 * (d : Int) → B ≤ m.left → B - f ≤ x.2.left

theorem kidsFrom_ok {d : Nat} {t : Mk → Re × Mk} {c z : Int} (ht : TT d t c z) : ∀ (f : Nat) (i : Int) (m : Mk) (b : Int), 0 ≤ b → m.In b → FOK d f m (kidsFrom t f i m)
  | 0, i, m, b, hb, h => ⟨Int.le_refl _, by simp [kidsFrom], by simp [kidsFrom], by simp [kidsFrom, Re.sizeL], fun B _ h2 => by simpa [kidsFrom] using h2⟩
  | f + 1, i, m, b, hb, h => by
    simp only [kidsFrom]
    split
    · have h1 := h.next 2
      have h2 := ht.tok _ (b + 1) (by omega) h1
      obtain ⟨h3, _⟩ := ht.good _ (b + 1) (by omega) h1
      have h4 := kidsFrom_ok ht f (i + 1) _ (b + 1 + c) (by have := ht.c0; omega) h3
      refine ⟨Int.le_trans h2.caps h4.caps, ?_, ?_, ?_, ?_⟩
      · intro k hk
        rcases List.mem_cons.1 hk with rfl | hk
        · exact whole_mono h4.caps h2.ok
        · exact h4.ok k hk
      · intro k hk
        rcases List.mem_cons.1 hk with rfl | hk
        · exact h2.dep
        · exact h4.dep k hk
      · have a := h2.size
        have a' := h4.size
        simp only [Re.sizeL, Int.natCast_add]
        have e : (m.next 2).2.left = m.left := rfl
        omega
      · intro B hB1 hB2
        have := h4.bnd (B - 1) (by omega) (h2.one hB1 hB2)
        simp only [Int.natCast_add]
        omega
    · exact ⟨Int.le_refl _, by simp, by simp, by simp [Re.sizeL, Mk.next], fun B _ h2 => by simp only [Mk.next]; omega⟩

theorem kidsFrom_two {t : Mk → Re × Mk} (m : Mk) : 2 ≤ (kidsFrom t 4 0 m).1.length := by
  have hp := pick_range m.l m.pos 2 (by omega)
  rw [kidsFrom, if_pos (by simp only [Mk.next]; omega)]
  simp only [List.length_cons]
  generalize (t (m.next 2).2).2 = m'
  have hp' := pick_range m'.l m'.pos 2 (by omega)
  rw [kidsFrom, if_pos (by simp only [Mk.next]; omega)]
  simp

structure NOK (d : Nat) (m : Mk) (x : Re × Mk) : Prop where
  caps : m.caps ≤ x.2.caps
  ok : x.1.whole x.2.caps 255 = true
  dep : x.1.depth ≤ d + 2
  size : (x.1.size : Int) ≤ 1 + (m.left - x.2.left)
  bnd : ∀ B : Int, B ≤ 2 - 4 * (d : Int) → B ≤ m.left → B - 4 ≤ x.2.left

theorem set_whole (m : Mk) (caps : Int) : m.set.1.whole caps 255 = true := by
  have hs : ∀ i : Nat, spansR ((setSpans[i]?).getD []) 255 = true := by
    intro i
    by_cases hi : i < 8
    · have : ∀ i, i < 8 → spansR ((setSpans[i]?).getD []) 255 = true := by decide
      exact this i hi
    · rw [List.getElem?_eq_none (by simp [setSpans]; omega)]; rfl
  refine whole_mk (nodeOk_iff.2 ?_) (fun k hk => by cases hk)
  refine ⟨⟨by simp [Re.op], by simp [Re.op], by simp [Re.op, kidsR], by simp [Re.op, kidsR, Re.kids]⟩, ?_, ?_, ?_, ?_⟩
  · show (if (1 : Int) = 1 then spansR ((setSpans[(pick m.l m.pos 15 / 2).toNat]?).getD []) 255 = true else _)
    rw [if_pos rfl]; exact hs _
  · rw [if_neg (by simp [Re.op])]; exact ⟨rfl, rfl, rfl⟩
  · rw [if_neg (by simp [Re.op]), if_neg (by simp [Re.op])]; rfl
  · intro h; simp [Re.neg] at h

theorem set_dep (m : Mk) : m.set.1.depth = 1 := rfl
theorem set_size (m : Mk) : m.set.1.size = 1 := rfl

theorem set_nok (d : Nat) (m : Mk) : NOK d m m.set :=
  ⟨Int.le_refl _, set_whole m _, by rw [set_dep]; omega, by rw [set_size]; simp [Mk.set, Mk.next], fun B _ h => by simp only [Mk.set, Mk.next]; omega⟩

/-- One kid. -/
theorem one_nok {d : Nat} {m m' : Mk} {x : Re × Mk} {op mn mx mode n : Int} {neg : Bool} (h : TOK d m' x) (hc : m.caps ≤ m'.caps) (hl : m'.left = m.left)
    (hn : nodeOk (.mk op [] [x.1] mn mx mode n neg) x.2.caps 255 = true) : NOK d m (.mk op [] [x.1] mn mx mode n neg, x.2) := by
  refine ⟨Int.le_trans hc h.caps, whole_mk hn (fun k hk => by rw [List.mem_singleton.1 hk]; exact h.ok), ?_, ?_, ?_⟩
  · exact Re.depth_mk (b := d + 1) (by omega) (fun k hk => by rw [List.mem_singleton.1 hk]; exact h.dep)
  · show ((Re.mk op [] [x.1] mn mx mode n neg).size : Int) ≤ 1 + (m.left - x.2.left)
    rw [size_one]; have := h.size; omega
  · intro B h1 h2
    have := h.one h1 (by omega)
    show B - 4 ≤ x.2.left
    omega

theorem none_nok {d : Nat} {m m' : Mk} {op mn mx mode n : Int} {neg : Bool} (hc : m.caps = m'.caps) (hl : m'.left = m.left)
    (hn : nodeOk (.mk op [] [] mn mx mode n neg) m'.caps 255 = true) : NOK d m (.mk op [] [] mn mx mode n neg, m') := by
  refine ⟨by rw [hc]; exact Int.le_refl _, whole_mk hn (fun k hk => by cases hk), ?_, ?_, ?_⟩
  · have := Re.depth_mk (op := op) (set := []) (mn := mn) (mx := mx) (mode := mode) (n := n) (neg := neg) (b := 0) (kids := []) (by omega) (fun k hk => by cases hk)
    show (Re.mk op [] [] mn mx mode n neg).depth ≤ _
    omega
  · show ((Re.mk op [] [] mn mx mode n neg).size : Int) ≤ 1 + (m.left - m'.left); rw [hl]; simp [Re.size, Re.sizeL]
  · intro B h1 h2; show B - 4 ≤ m'.left; omega

theorem simple_node {op n caps : Int} {kids : List Re} {neg : Bool} (h0 : 0 ≤ op ∧ op ≤ 11) (h1 : op ≠ 1) (h4 : op ≠ 4) (hk : (kidsR op).1 ≤ kids.length ∧ ((kidsR op).2 < 0 ∨ (kids.length : Int) ≤ (kidsR op).2))
    (hn : if op = 5 ∨ op = 6 ∨ op = 10 then (1 ≤ n ∧ n ≤ caps) else if op = 11 then (0 ≤ n ∧ n ≤ 5) else n = 0) (hneg : neg = true → op = 7 ∨ op = 8) : nodeOk (.mk op [] kids 0 0 0 n neg) caps 255 = true := by
  refine nodeOk_iff.2 ⟨⟨h0.1, h0.2, hk.1, hk.2⟩, ?_, ?_, hn, hneg⟩
  · rw [if_neg (by exact h1)]; rfl
  · rw [if_neg (by exact h4)]; exact ⟨rfl, rfl, rfl⟩

theorem repKid_tok {d : Nat} {t : Mk → Re × Mk} {m : Mk} (h : TOK d m (t m)) : TOK d m (repKid t m) := by
  unfold repKid
  simp only
  split
  · have h1 := h.size
    have h2 := (t m).1.size_pos
    exact ⟨h.caps, set_whole _ _, by rw [set_dep]; omega, by rw [set_size]; show ((1 : Nat) : Int) ≤ m.left - (t m).2.left; omega, h.low, h.high⟩
  · exact h

theorem repMode_same (m : Mk) : (repMode m).2.caps = m.caps ∧ (repMode m).2.left = m.left ∧ 0 ≤ (repMode m).1 ∧ (repMode m).1 ≤ 2 := by
  have hp := pick_range m.l m.pos 2 (by omega)
  unfold repMode
  simp only
  split
  · refine ⟨rfl, rfl, ?_, ?_⟩ <;> (split <;> simp only [Mk.next] <;> omega)
  · refine ⟨rfl, rfl, ?_, ?_⟩ <;> simp only [Mk.next] <;> omega

theorem rep_nok {d : Nat} {t : Mk → Re × Mk} {c z : Int} (ht : TT d t c z) {m : Mk} {b : Int} (hb : 0 ≤ b) (h : m.In b) : NOK d m (m.rep t) := by
  have hk := pick_range m.l m.pos 12 (by omega)
  have hi := repMode_in (h.next 12)
  obtain ⟨r1, r2, r3, r4⟩ := repMode_same (m.next 12).2
  have h2 := repKid_tok (ht.tok _ (b + 1 + 2) (by omega) hi)
  simp only [Mk.rep]
  refine one_nok h2 (by rw [r1]; exact Int.le_refl _) (by rw [r2]; rfl) (nodeOk_iff.2 ⟨⟨by simp [Re.op], by simp [Re.op], by simp [Re.op, kidsR, Re.kids], by simp [Re.op, kidsR, Re.kids]⟩, ?_, ?_, ?_, ?_⟩)
  · rw [if_neg (by simp [Re.op])]; rfl
  · rw [if_pos (by simp [Re.op])]
    have key : ∀ i : Nat, i < 12 → 0 ≤ (repMins[i]?).getD 0 ∧ (repMins[i]?).getD 0 ≤ 32 ∧ -1 ≤ (repMaxs[i]?).getD 0 ∧ (repMaxs[i]?).getD 0 ≠ 0 ∧ (repMaxs[i]?).getD 0 ≤ 32 ∧ (0 < (repMaxs[i]?).getD 0 → (repMins[i]?).getD 0 ≤ (repMaxs[i]?).getD 0) := by decide
    obtain ⟨k1, k2, k3, k4, k5, k6⟩ := key (pick m.l m.pos 12).toNat (by omega)
    exact ⟨k1, k2, k3, k4, k5, k6, r3, r4⟩
  · rw [if_neg (by simp [Re.op]), if_neg (by simp [Re.op])]; rfl
  · intro h; simp [Re.neg] at h

theorem capNum_left (m : Mk) : (capNum m).2.left = m.left := by
  unfold capNum
  simp only
  split
  · rfl
  · split
    · split <;> rfl
    · rfl

theorem capture_nok {d : Nat} {t : Mk → Re × Mk} {c z : Int} (ht : TT d t c z) {m : Mk} {b : Int} (hb : 0 ≤ b) (h : m.In b) : NOK d m (m.capture t) := by
  obtain ⟨h1, h2, h3, h4⟩ := capNum_in h
  have hl := capNum_left m
  simp only [Mk.capture]
  have hin : ((capNum m).2.withCaps (max (capNum m).2.caps (capNum m).1)).In (b + 2) := ⟨h1.l, h1.p0, h1.p1, h1.l0, h1.l1, by show 0 ≤ max _ _; omega, by have := h.c1; show max _ _ ≤ 4; omega⟩
  have hx := ht.tok _ (b + 2) (by omega) hin
  have hcc : (capNum m).1 ≤ (t ((capNum m).2.withCaps (max (capNum m).2.caps (capNum m).1))).2.caps := Int.le_trans (by show _ ≤ max _ _; omega) hx.caps
  refine one_nok hx (by show m.caps ≤ max _ _; omega) hl (simple_node (by omega) (by omega) (by omega) (by simp [kidsR]) ?_ (by simp))
  rw [if_pos (.inl rfl)]
  exact ⟨h3, hcc⟩

theorem forest_nok {d : Nat} {m : Mk} {op : Int} {x : List Re × Mk} (h : FOK d 4 m x) (ho : op = 2 ∨ op = 3) (hl : 2 ≤ x.1.length) : NOK d m (Re.node op x.1, x.2) := by
  refine ⟨h.caps, whole_mk (simple_node (by omega) (by omega) (by omega) ?_ ?_ (by simp)) h.ok, Re.depth_mk (b := d + 1) (by omega) h.dep, ?_, ?_⟩
  · unfold kidsR; rw [if_pos ho]; exact ⟨by show (2 : Int) ≤ _; omega, .inl (by show (-1 : Int) < 0; omega)⟩
  · rw [if_neg (by omega), if_neg (by omega)]
  · show ((Re.node op x.1).size : Int) ≤ _
    have := h.size
    simp only [Re.node, Re.size, Int.natCast_add]
    show ((1 : Nat) : Int) + (Re.sizeL x.1 : Int) ≤ 1 + (m.left - x.2.left)
    omega
  · intro B h1 h2
    exact h.bnd B h1 h2

theorem node_nok {d : Nat} {t : Mk → Re × Mk} {c z : Int} (ht : TT d t c z) (k : Int) {m : Mk} {b : Int} (hb : 0 ≤ b) (h : m.In b) : NOK d m (Mk.node t k m) := by
  have hf := kidsFrom_ok ht 4 0 m b hb h
  have hl := kidsFrom_two (t := t) m
  have hc0 := ht.c0
  unfold Mk.node
  split
  · exact forest_nok hf (.inl rfl) hl
  split
  · exact forest_nok hf (.inr rfl) hl
  split
  · exact rep_nok ht hb h
  split
  · exact capture_nok ht hb h
  split
  · exact capture_nok ht hb h
  split
  · have hp := pick_range m.l m.pos 6 (by omega)
    refine none_nok rfl rfl (simple_node (by omega) (by omega) (by omega) (by simp [kidsR]) ?_ (by simp))
    rw [if_neg (by omega), if_pos rfl]
    simp only [Mk.next]; omega
  split
  · have hp := pick_range (m.next 3).2.l (m.next 3).2.pos 2 (by omega)
    have hx := ht.tok _ (b + 2) (by omega) (((h.next 3).next 2).mono (by omega))
    have hp2 : ((m.next 3).2.next 2).1 = 0 ∨ ((m.next 3).2.next 2).1 = 1 := by simp only [Mk.next] at hp ⊢; omega
    refine one_nok hx (Int.le_refl _) rfl (simple_node ?_ ?_ ?_ ?_ ?_ ?_)
    · omega
    · omega
    · omega
    · rcases hp2 with e | e <;> rw [e] <;> simp [kidsR]
    · rcases hp2 with e | e <;> rw [e] <;> simp
    · intro _; omega
  split
  · exact one_nok (ht.tok m b hb h) (Int.le_refl _) rfl (simple_node (by omega) (by omega) (by omega) (by simp [kidsR]) (by simp) (by simp))
  split
  · rename_i hcond
    have hcp : 0 < m.caps := hcond.2.2
    have hp := pick_range m.l m.pos m.caps (by omega)
    refine none_nok rfl rfl (simple_node (by omega) (by omega) (by omega) (by simp [kidsR]) ?_ (by simp))
    rw [if_pos (.inr (.inl rfl))]
    simp only [Mk.next]; omega
  split
  · rename_i hcond
    have hcp : 0 < m.caps := hcond.2.2
    have hp := pick_range m.l m.pos m.caps (by omega)
    have h1 := h.next m.caps
    have hy := ht.tok _ (b + 1) (by omega) h1
    obtain ⟨h2, _⟩ := ht.good _ (b + 1) (by omega) h1
    have hz := ht.tok _ (b + 1 + c) (by omega) h2
    have e1 : (m.next m.caps).2.caps = m.caps := rfl
    have e2 : (m.next m.caps).2.left = m.left := rfl
    simp only
    refine ⟨Int.le_trans hy.caps hz.caps, whole_mk (simple_node (by omega) (by omega) (by omega) (by simp [kidsR]) ?_ (by simp)) ?_, Re.depth_mk (b := d + 1) (by omega) ?_, ?_, ?_⟩
    · rw [if_pos (.inr (.inr rfl))]
      have := Int.le_trans hy.caps hz.caps
      simp only [Mk.next] at this hp ⊢
      omega
    · intro x hx
      rcases List.mem_cons.1 hx with rfl | hx
      · exact whole_mono hz.caps hy.ok
      · rw [List.mem_singleton.1 hx]; exact hz.ok
    · intro x hx
      rcases List.mem_cons.1 hx with rfl | hx
      · exact hy.dep
      · rw [List.mem_singleton.1 hx]; exact hz.dep
    · have a1 := hy.size
      have a2 := hz.size
      simp only [Re.size, Re.sizeL, Int.natCast_add]
      omega
    · intro B hB1 hB2
      have b1 := hy.one hB1 (by omega)
      have b2 := hz.one (B := B - 1) (by omega) b1
      show B - 4 ≤ (t (t (m.next m.caps).2).2).2.left
      omega
  · exact set_nok d m

theorem tree_tt : ∀ d, TT d (Mk.tree d) (cD d) (zD d)
  | 0 => by
    refine ⟨tree_good 0, by have := cD_nonneg 0; omega, zD_pos 0, fun m b hb h => ?_⟩
    simp only [Mk.tree]
    have el : (m.less.next 20).2.left = m.left - 1 := rfl
    have ec : (m.less.next 20).2.caps = m.caps := rfl
    split
    · have hn : nodeOk (Re.node 0 []) (m.less.next 20).2.caps 255 = true := simple_node (by omega) (by omega) (by omega) (by simp [kidsR]) (by simp) (by simp)
      exact ⟨by rw [ec]; exact Int.le_refl _, whole_mk hn (fun k hk => by cases hk), by show (1 : Int) ≤ _; omega, by show ((1 : Nat) : Int) ≤ m.left - (m.less.next 20).2.left; omega, fun _ => by show _ ≤ (m.less.next 20).2.left; omega, fun _ => by show _ ≤ (m.less.next 20).2.left; omega⟩
    · have e1 : (m.less.next 20).2.set.2.left = m.left - 1 := rfl
      exact ⟨Int.le_refl _, set_whole _ _, by rw [set_dep]; omega, by rw [set_size]; omega, fun _ => by omega, fun _ => by omega⟩
  | d + 1 => by
    refine ⟨tree_good (d + 1), by have := cD_nonneg (d + 1); omega, zD_pos (d + 1), fun m b hb h => ?_⟩
    simp only [Mk.tree]
    have el : (m.less.next 20).2.left = m.left - 1 := rfl
    have ec : (m.less.next 20).2.caps = m.caps := rfl
    split
    · split
      · have hn : nodeOk (Re.node 0 []) (m.less.next 20).2.caps 255 = true := simple_node (by omega) (by omega) (by omega) (by simp [kidsR]) (by simp) (by simp)
        exact ⟨by rw [ec]; exact Int.le_refl _, whole_mk hn (fun k hk => by cases hk), by show (1 : Int) ≤ _; omega, by show ((1 : Nat) : Int) ≤ m.left - (m.less.next 20).2.left; omega, fun _ => by show _ ≤ (m.less.next 20).2.left; omega, fun _ => by show _ ≤ (m.less.next 20).2.left; omega⟩
      · have e1 : (m.less.next 20).2.set.2.left = m.left - 1 := rfl
        exact ⟨Int.le_refl _, set_whole _ _, by rw [set_dep]; omega, by rw [set_size]; omega, fun _ => by omega, fun _ => by omega⟩
    · rename_i hcond
      have hl3 : ¬ (m.less.next 20).2.left < 3 := fun hh => hcond (.inl hh)
      have hn := node_nok (tree_tt d) (m.less.next 20).1 (b := b + 1 + 1) (by omega) (h.left.next 20)
      refine ⟨Int.le_trans (by rw [ec]; exact Int.le_refl _) hn.caps, hn.ok, ?_, ?_, fun hh => by omega, fun _ => ?_⟩
      · have := hn.dep; simp only [Int.natCast_add]; omega
      · have := hn.size; omega
      · have := hn.bnd (2 - 4 * (d : Int)) (Int.le_refl _) (by omega)
        simp only [Int.natCast_add]; omega

/-- The maker's patterns are valid. -/
theorem pat_valid (l : List Int) (uses most : Int) (hl : ∀ x ∈ l, I64 x) (h0 : 0 ≤ most) (h1 : most ≤ 100) : validR (patOf l uses most) = 0 ∧ (patOf l uses most).re.size ≤ 256 := by
  have hin : (⟨l, 0, uses, most, 0⟩ : Mk).In 0 := ⟨hl, by simp, by simp, by simpa using h0, by show most ≤ _; omega, by simp, by simp⟩
  have h := (tree_tt 5).tok ⟨l, 0, uses, most, 0⟩ 0 (by omega) hin
  obtain ⟨g, _⟩ := (tree_tt 5).good ⟨l, 0, uses, most, 0⟩ 0 (by omega) hin
  have hsz := h.size
  have hlow := h.low
  have hhigh := h.high
  have hdep := h.dep
  have hok := h.ok
  have hs : (patOf l uses most).re.size ≤ 256 := by
    show (Mk.tree 5 ⟨l, 0, uses, most, 0⟩).1.size ≤ 256
    simp only at hsz hlow hhigh
    omega
  refine ⟨?_, hs⟩
  unfold validR
  rw [if_neg, if_neg]
  · rintro (h' | h' | h')
    · have := g.c0; have h'' : (Mk.tree 5 ⟨l, 0, uses, most, 0⟩).2.caps < 0 := h'; omega
    · have := g.c1; have h'' : 9 < (Mk.tree 5 ⟨l, 0, uses, most, 0⟩).2.caps := h'; omega
    · have h'' : (Mk.tree 5 ⟨l, 0, uses, most, 0⟩).1.whole (Mk.tree 5 ⟨l, 0, uses, most, 0⟩).2.caps 255 = false := h'
      rw [hok] at h''; cases h''
  · rintro (h' | h')
    · omega
    · have h'' : 24 < (Mk.tree 5 ⟨l, 0, uses, most, 0⟩).1.depth := h'
      omega

theorem sp_in {top : Int} : ∀ (l : List (Int × Int)) (p : Int), spOk top p l = true → ∀ s ∈ l, 0 ≤ s.1 ∧ s.1 ≤ top ∧ 0 ≤ s.2 ∧ s.2 ≤ top
  | [], p, h, s, hs => by cases hs
  | x :: l, p, h, s, hs => by
    simp only [spOk, Bool.and_eq_true, decide_eq_true_eq] at h
    rcases List.mem_cons.1 hs with rfl | hs
    · omega
    · exact sp_in l x.2 h.2 s hs

/-- A valid node with not too many kids is small. -/
theorem small_of_ok {re : Re} {caps top : Int} {c : Nat} (hc : 64 ≤ c) (ht : top ≤ 1114111) (hcp : caps ≤ 1000000) (h : nodeOk re caps top = true) (hk : re.kids.length ≤ c) : smallB c re = true := by
  obtain ⟨h1, h2, h3, h4, h5⟩ := nodeOk_iff.1 h
  have hset : re.set.length ≤ 64 ∧ ∀ s ∈ re.set, I64 s.1 ∧ I64 s.2 := by
    split at h2
    · simp only [spansR, Bool.and_eq_true, decide_eq_true_eq] at h2
      refine ⟨h2.1, fun s hs => ?_⟩
      have := sp_in _ _ h2.2 s hs
      unfold I64; omega
    · have hn : re.set = [] := List.eq_nil_of_length_eq_zero h2
      rw [hn]; exact ⟨by simp, fun s hs => by cases hs⟩
  refine smallB_iff.2 ⟨⟨by omega, hk, ?_, ?_, ?_, ?_, ?_⟩, hset.2⟩
  · unfold I64; omega
  · unfold I64; split at h3 <;> omega
  · unfold I64; split at h3 <;> omega
  · unfold I64; split at h3 <;> omega
  · unfold I64; split at h4
    · omega
    · split at h4 <;> omega

theorem pat_small (l : List Int) (uses most : Int) (hl : ∀ x ∈ l, I64 x) (h0 : 0 ≤ most) (h1 : most ≤ 100) : (patOf l uses most).small 256 := by
  have hin : (⟨l, 0, uses, most, 0⟩ : Mk).In 0 := ⟨hl, by simp, by simp, by simpa using h0, by show most ≤ _; omega, by simp, by simp⟩
  have h := (tree_tt 5).tok ⟨l, 0, uses, most, 0⟩ 0 (by omega) hin
  obtain ⟨g, _⟩ := (tree_tt 5).good ⟨l, 0, uses, most, 0⟩ 0 (by omega) hin
  obtain ⟨_, hs⟩ := pat_valid l uses most hl h0 h1
  have hc0 := g.c0
  have hc1 := g.c1
  refine ⟨?_, hs, by show I64 (Mk.tree 5 ⟨l, 0, uses, most, 0⟩).2.caps; unfold I64; omega⟩
  have hok : (patOf l uses most).re.whole (Mk.tree 5 ⟨l, 0, uses, most, 0⟩).2.caps 255 = true := h.ok
  revert hok hs
  generalize (patOf l uses most).re = re
  intro hs hok
  refine Re.ind (Q := fun re => re.size ≤ 256 → re.whole (Mk.tree 5 ⟨l, 0, uses, most, 0⟩).2.caps 255 = true → re.every (smallB 256) = true) (fun re ih hs hok => ?_) re hs hok
  obtain ⟨a1, a2⟩ := (Re.every_iff re).1 hok
  have := Re.len_le re.kids
  have := Re.size_eq re
  exact (Re.every_iff re).2 ⟨small_of_ok (by omega) (by omega) (by omega) a1 (by omega), fun k hk => ih k hk (by have := Re.size_kid hk; omega) (a2 k hk)⟩

end Go.Proofs.Ytafbdphblilenaa

set_option linter.unusedSimpArgs false
set_option linter.unusedVariables false
namespace Go.Proofs.Ytafbdphblilenaa
open Go.VL

/-! ### What a tree uses: what the code computes -/

mutual
def Re.usesA : Re → Int → Int
  | .mk op _ kids _ _ mode _ _, a => Re.usesAL kids (bitV .or .i64 a (usesN op mode (Re.anulL kids)))
def Re.usesAL : List Re → Int → Int
  | [], a => a
  | k :: l, a => Re.usesAL l (k.usesA a)
end

theorem Re.usesA_eq (re : Re) (a : Int) : re.usesA a = Re.usesAL re.kids (bitV .or .i64 a (usesN re.op re.mode (re.kids.map Re.anul))) := by
  cases re; simp [Re.usesA, Re.anulL_eq, Re.op, Re.mode, Re.kids]

theorem Re.usesAL_snoc : ∀ (l : List Re) (k : Re) (a : Int), Re.usesAL (l ++ [k]) a = k.usesA (Re.usesAL l a)
  | [], k, a => by simp [Re.usesAL]
  | x :: l, k, a => by simp only [List.cons_append, Re.usesAL, Re.usesAL_snoc l k]

def UsesOK (re : Re) : Prop := ∀ c : Int, callWp Try.prog 73 [reEl re, .rf 0 0 0 0, .rf 1 0 0 0] [cntO c, cell2O 73] fun v s => v = .tu [] ∧ s = [cntO (re.usesA c), cell2O 73]

set_option maxRecDepth 100000 in
set_option maxHeartbeats 8000000 in
theorem uses_rec (re : Re) (hs : re.fine = true) : UsesOK re := by
  revert hs
  refine Re.ind (Q := fun re => re.fine = true → UsesOK re) (fun re ih hs => ?_) re
  intro c
  obtain ⟨hset1, hlen, hfk⟩ := Re.fine_spec hs
  have huo := usesOf_ok re hs
  rw [reEl, Re.cells_eq re] at huo
  simp only [iD, bD, i64] at huo
  rw [Re.usesA_eq]
  generalize usesN re.op re.mode (re.kids.map Re.anul) = u at *
  refine fn_ok Try.func73 rfl Try.ntmps73 Try.results73 rfl 2 24599 (by simp) (by simp) ?_
  simp only [vsA, vsB, vsC, appendWp, Nat.reduceShiftRight, Nat.reduceMod, Nat.reduceLT, Nat.reduceMul, Nat.reduceSub, Int.reduceToNat, Int.reduceNeg, Int.reduceLT, Int.reduceLE, Int.reduceEq, Nat.reduceEqDiff, Nat.reduceAdd, Nat.reduceLeDiff, reduceIte, reduceCtorEq, Nat.reduceBEq, tysA, i64, cntO, cell2O, reEl, Re.cells_eq re, iD, bD]
  refine draw_c mix [4] [] (by rfl) ?_
  simp only [vsA, vsB, vsC, appendWp, Nat.reduceShiftRight, Nat.reduceMod, Nat.reduceLT, Nat.reduceMul, Nat.reduceSub, Int.reduceToNat, Int.reduceNeg, Int.reduceLT, Int.reduceLE, Int.reduceEq, Nat.reduceEqDiff, Nat.reduceAdd, Nat.reduceLeDiff, reduceIte, reduceCtorEq, Nat.reduceBEq, tysA, i64, cntO, cell2O, reEl, Re.cells_eq re, iD, bD]
  refine callC_pure huo rfl rfl ?_
  simp only [vsA, vsB, vsC, appendWp, Nat.reduceShiftRight, Nat.reduceMod, Nat.reduceLT, Nat.reduceMul, Nat.reduceSub, Int.reduceToNat, Int.reduceNeg, Int.reduceLT, Int.reduceLE, Int.reduceEq, Nat.reduceEqDiff, Nat.reduceAdd, Nat.reduceLeDiff, reduceIte, reduceCtorEq, Nat.reduceBEq, tysA, i64, cntO, cell2O, reEl, Re.cells_eq re, iD, bD]
  refine loop_rule (fun n e s => ∃ i : Nat, n = re.kids.length - i ∧ i ≤ re.kids.length ∧ e 0 = reEl re ∧ e 1 = .rf 0 0 0 0 ∧ e 2 = .rf 1 0 0 0 ∧ e 13 = i64 re.kids.length ∧ e 14 = i64 i ∧ s = [cntO (Re.usesAL (re.kids.take i) (bitV .or .i64 c u)), cell2O 73])
    ⟨_, _, _, Cln.refl, 0, rfl, by omega, by simp [reEl, Re.cells_eq re, iD, bD]; rfl, rfl, rfl, rfl, rfl, by simp [Re.usesAL, cntO, cell2O, i64]⟩ ?_
  rintro n e s ⟨i, rfl, hi, h0, h1, h2, h11, h12, rfl⟩
  rcases Nat.lt_or_ge i re.kids.length with hlt | hge
  · obtain ⟨k, hk⟩ : ∃ k, re.kids[i]? = some k := ⟨_, List.getElem?_eq_getElem hlt⟩
    have hm := List.mem_of_getElem? hk
    have hk0 := ih k hm (hfk k hm) (Re.usesAL (re.kids.take i) (bitV .or .i64 c u))
    simp only [vsA, vsB, vsC, appendWp, Nat.reduceShiftRight, Nat.reduceMod, Nat.reduceLT, Nat.reduceMul, Nat.reduceSub, Int.reduceToNat, Int.reduceNeg, Int.reduceLT, Int.reduceLE, Int.reduceEq, Nat.reduceEqDiff, Nat.reduceAdd, Nat.reduceLeDiff, reduceIte, reduceCtorEq, Nat.reduceBEq, tysA, i64, cntO, cell2O, reEl, Re.cells_eq re, iD, bD, h0, h1, h2, h11, h12, hlt]
    refine draw_c mix [] [(0, [1], []), (7, [0, 1], [0, 1])] (by rfl) ?_
    simp only [vsA, vsB, vsC, appendWp, Nat.reduceShiftRight, Nat.reduceMod, Nat.reduceLT, Nat.reduceMul, Nat.reduceSub, Int.reduceToNat, Int.reduceNeg, Int.reduceLT, Int.reduceLE, Int.reduceEq, Nat.reduceEqDiff, Nat.reduceAdd, Nat.reduceLeDiff, reduceIte, reduceCtorEq, Nat.reduceBEq, tysA, i64, cntO, cell2O, reEl, Re.cells_eq re, iD, bD, h0, h1, h2, h11, h12, hlt, hk]
    refine callF_two hk0 (by simp [renV, reEl]) (by simp [refsV, refsV.go, reEl]) rfl rfl rfl rfl rfl rfl rfl ?_
    simp only [vsA, vsB, vsC, appendWp, Nat.reduceShiftRight, Nat.reduceMod, Nat.reduceLT, Nat.reduceMul, Nat.reduceSub, Int.reduceToNat, Int.reduceNeg, Int.reduceLT, Int.reduceLE, Int.reduceEq, Nat.reduceEqDiff, Nat.reduceAdd, Nat.reduceLeDiff, reduceIte, reduceCtorEq, Nat.reduceBEq, tysA, i64, cntO, cell2O, reEl, Re.cells_eq re, iD, bD, h0, h1, h2, h11, h12]
    refine ⟨re.kids.length - (i + 1), _, _, by omega, Cln.refl, i + 1, rfl, hlt, ?_, ?_, ?_, ?_, ?_, ?_⟩ <;> (try simp only [keepE_app, List.contains_cons, List.contains_nil, Nat.reduceBEq, Bool.or_false, Bool.false_or, Bool.or_true, Bool.true_or, updE, trimE_upd, trimE_trim, trimE_app, Nat.reduceShiftRight, Nat.reduceMod, Nat.reduceEqDiff, if_true, if_false, reduceIte])
    · simpa [reEl, Re.cells_eq re, iD, bD] using h0
    · exact h1
    · exact h2
    · exact h11
    · rw [w64 _ (by omega)]; rfl
    · rw [take_get hk, Re.usesAL_snoc]
  · have hie : i = re.kids.length := by omega
    subst hie
    simp only [vsA, vsB, vsC, appendWp, Nat.reduceShiftRight, Nat.reduceMod, Nat.reduceLT, Nat.reduceMul, Nat.reduceSub, Int.reduceToNat, Int.reduceNeg, Int.reduceLT, Int.reduceLE, Int.reduceEq, Nat.reduceEqDiff, Nat.reduceAdd, Nat.reduceLeDiff, reduceIte, reduceCtorEq, Nat.reduceBEq, tysA, i64, cntO, cell2O, reEl, Re.cells_eq re, iD, bD, h0, h1, h2, h11, h12, Nat.lt_irrefl, List.take_length]

theorem uses_ok (re : Re) (hs : re.fine = true) : PureOK Try.prog 30 [reV re] (i64 (re.usesA 0)) := by
  refine fn_ok Try.func30 rfl Try.ntmps30 Try.results30 rfl 0 31 (by simp) (by simp) ?_
  simp only [vsA, vsB, vsC, appendWp, Nat.reduceShiftRight, Nat.reduceMod, Nat.reduceLT, Nat.reduceMul, Nat.reduceSub, Int.reduceToNat, Int.reduceNeg, Int.reduceLT, Int.reduceLE, Int.reduceEq, Nat.reduceEqDiff, Nat.reduceAdd, Nat.reduceLeDiff, reduceIte, reduceCtorEq, Nat.reduceBEq, tysA, i64, reV_eq re, iD, bD]
  refine call_give [0] rfl ?_
  refine call_at2 (r' := .tu []) 1 2 (by decide) (uses_rec re hs 0) (by rw [reEl, Re.cells_eq]; rfl) (by simp [refsV, refsV.go, reEl]) rfl rfl rfl rfl rfl ?_
  simp only [vsA, vsB, vsC, appendWp, Nat.reduceShiftRight, Nat.reduceMod, Nat.reduceLT, Nat.reduceMul, Nat.reduceSub, Int.reduceToNat, Int.reduceNeg, Int.reduceLT, Int.reduceLE, Int.reduceEq, Nat.reduceEqDiff, Nat.reduceAdd, Nat.reduceLeDiff, reduceIte, reduceCtorEq, Nat.reduceBEq, tysA, i64, killO, kill1, renO, renV, renV.go, cntO, cell2O]
  all_goals first | exact ⟨rfl, rfl⟩ | exact ⟨rfl, trivial⟩ | rfl | trivial | (rw [reV_eq]; rfl)

end Go.Proofs.Ytafbdphblilenaa

set_option linter.unusedSimpArgs false
set_option linter.unusedVariables false
namespace Go.Proofs.Ytafbdphblilenaa
open Go.VL

/-! ### What a tree uses: the reference -/

def usesRN (op mode : Int) (b : Bool) : Int :=
  if op = 6 then 1 else if op = 10 then 2 else if op = 7 ∨ op = 8 then 4 else if op = 9 then 8 else if op = 11 then 16 else if op = 5 then 64
  else if op = 4 then (if b = true then bitV .or .i64 (if mode = 2 then 8 else 0) 32 else (if mode = 2 then 8 else 0))
  else 0

def headNul : List Re → Bool
  | [] => false
  | k :: _ => k.nul

mutual
def Re.usesR : Re → Int
  | .mk op _ kids _ _ mode _ _ => Re.usesRL kids (usesRN op mode (headNul kids))
def Re.usesRL : List Re → Int → Int
  | [], a => a
  | k :: l, a => Re.usesRL l (bitV .or .i64 a k.usesR)
end

theorem Re.usesR_eq (re : Re) : re.usesR = Re.usesRL re.kids (usesRN re.op re.mode (headNul re.kids)) := by
  cases re; simp [Re.usesR, Re.op, Re.mode, Re.kids]

theorem Re.usesRL_snoc : ∀ (l : List Re) (k : Re) (a : Int), Re.usesRL (l ++ [k]) a = bitV .or .i64 (Re.usesRL l a) k.usesR
  | [], k, a => by simp [Re.usesRL]
  | x :: l, k, a => by simp only [List.cons_append, Re.usesRL, Re.usesRL_snoc l k]

set_option maxRecDepth 100000 in
set_option maxHeartbeats 16000000 in
theorem refUses_ok (re : Re) (hs : re.size ≤ 1000000000) : PureOK Try.prog 31 [reV re] (i64 re.usesR) := by
  revert hs
  refine Re.ind (Q := fun re => re.size ≤ 1000000000 → PureOK Try.prog 31 [reV re] (i64 re.usesR)) (fun re ih hs => ?_) re
  have hlen := Re.len_le re.kids
  have hsz := Re.size_eq re
  rw [Re.usesR_eq]
  have hcase : re.op = 6 ∨ re.op = 10 ∨ re.op = 7 ∨ re.op = 8 ∨ re.op = 9 ∨ re.op = 11 ∨ re.op = 5 ∨ re.op = 4 ∨ (¬ re.op = 6 ∧ ¬ re.op = 10 ∧ ¬ re.op = 7 ∧ ¬ re.op = 8 ∧ ¬ re.op = 9 ∧ ¬ re.op = 11 ∧ ¬ re.op = 5 ∧ ¬ re.op = 4) := by omega
  rcases hcase with p | p | p | p | p | p | p | p | p
  case inr.inr.inr.inr.inr.inr.inr.inl =>
    have hb : ∀ u : Int, (u = usesRN 4 re.mode (headNul re.kids)) → u = usesRN re.op re.mode (headNul re.kids) := fun u h => by rw [p]; exact h
    have h01 : (0 : Int) < re.kids.length ∨ re.kids = [] := by
      cases re.kids with
      | nil => exact .inr rfl
      | cons k l => exact .inl (by simp)
    rw [p]
    rcases h01 with hp | hnil
    · obtain ⟨k0, l0, hkl⟩ : ∃ k l, re.kids = k :: l := by
        cases h : re.kids with
        | nil => rw [h] at hp; simp at hp
        | cons k l => exact ⟨k, l, rfl⟩
      have hk0 : re.kids[0]? = some k0 := by rw [hkl]; rfl
      have hm0 : k0 ∈ re.kids := by rw [hkl]; simp
      have hnk := refNullable_ok k0 (by have := Re.size_kid hm0; omega)
      have hh : headNul re.kids = k0.nul := by rw [hkl]; rfl
      rw [hh]
      by_cases hmo : re.mode = 2
      all_goals
        cases hkn : k0.nul
        all_goals
          simp only [usesRN, hmo, Int.reduceEq, if_true, if_false, reduceIte, or_true, true_or, or_false, false_or, reduceCtorEq]
          refine fn_ok Try.func31 rfl Try.ntmps31 Try.results31 rfl 0 2143 (by simp) (by simp) ?_
          simp only [vsA, vsB, vsC, appendWp, Nat.reduceShiftRight, Nat.reduceMod, Nat.reduceLT, Nat.reduceMul, Nat.reduceSub, Int.reduceToNat, Int.reduceNeg, Int.reduceLT, Int.reduceLE, Int.reduceEq, Nat.reduceEqDiff, Nat.reduceAdd, Nat.reduceLeDiff, reduceIte, reduceCtorEq, Nat.reduceBEq, tysA, i64, reV_eq re, iD, bD, p, hmo, hp, hk0]
          refine call_pure hnk (by simp [refsV, refsV.go, reV_eq, i64, bV, reEl]) (by simp [refsV, refsV.go, reV_eq, i64, bV, reEl]) ?_
          simp only [vsA, vsB, vsC, appendWp, Nat.reduceShiftRight, Nat.reduceMod, Nat.reduceLT, Nat.reduceMul, Nat.reduceSub, Int.reduceToNat, Int.reduceNeg, Int.reduceLT, Int.reduceLE, Int.reduceEq, Nat.reduceEqDiff, Nat.reduceAdd, Nat.reduceLeDiff, reduceIte, reduceCtorEq, Nat.reduceBEq, tysA, i64, bV, hkn, hmo]
          refine loop_rule (fun n e s => ∃ i : Nat, n = re.kids.length - i ∧ i ≤ re.kids.length ∧ e 1 = .rf 0 0 0 0 ∧ e 3 = i64 (Re.usesRL (re.kids.take i) _) ∧ e 4 = i64 i ∧ s = [⟨0, true, 8, [re.cells.map .d]⟩])
            ⟨_, _, _, Cln.refl, 0, rfl, by omega, rfl, rfl, rfl, by first | simp [Re.cells_eq re, iD, bD, p, hmo] | simp [Re.cells_eq re, iD, bD]⟩ ?_
          rintro n e s ⟨i, rfl, hi, h1, h3, h4, rfl⟩
          rcases Nat.lt_or_ge i re.kids.length with hlt | hge
          · obtain ⟨k, hk⟩ : ∃ k, re.kids[i]? = some k := ⟨_, List.getElem?_eq_getElem hlt⟩
            have hm := List.mem_of_getElem? hk
            have hks := Re.size_kid hm
            simp only [vsA, vsB, vsC, appendWp, Nat.reduceShiftRight, Nat.reduceMod, Nat.reduceLT, Nat.reduceMul, Nat.reduceSub, Int.reduceToNat, Int.reduceNeg, Int.reduceLT, Int.reduceLE, Int.reduceEq, Nat.reduceEqDiff, Nat.reduceAdd, Nat.reduceLeDiff, reduceIte, reduceCtorEq, Nat.reduceBEq, tysA, i64, Re.cells_eq re, iD, bD, h1, h3, h4, hlt, hk]
            refine call_pure (ih k hm (by omega)) (by simp [refsV, refsV.go, reV_eq, i64, bV, reEl]) (by simp [refsV, refsV.go, reV_eq, i64, bV, reEl]) ?_
            simp only [vsA, vsB, vsC, appendWp, Nat.reduceShiftRight, Nat.reduceMod, Nat.reduceLT, Nat.reduceMul, Nat.reduceSub, Int.reduceToNat, Int.reduceNeg, Int.reduceLT, Int.reduceLE, Int.reduceEq, Nat.reduceEqDiff, Nat.reduceAdd, Nat.reduceLeDiff, reduceIte, reduceCtorEq, Nat.reduceBEq, tysA, i64, Re.cells_eq re, iD, bD, h1, h3, h4]
            refine ⟨re.kids.length - (i + 1), _, _, by omega, Cln.refl, i + 1, rfl, hlt, ?_, ?_, ?_, rfl⟩ <;> (try simp only [keepE_app, List.contains_cons, List.contains_nil, Nat.reduceBEq, Bool.or_false, Bool.false_or, Bool.or_true, Bool.true_or, updE, trimE_upd, trimE_trim, trimE_app, Nat.reduceShiftRight, Nat.reduceMod, Nat.reduceEqDiff, if_true, if_false, reduceIte])
            · exact h1
            · rw [take_get hk, Re.usesRL_snoc]
            · rw [w64 _ (by omega)]; rfl
          · have hie : i = re.kids.length := by omega
            subst hie
            rw [List.take_length] at h3
            simp only [vsA, vsB, vsC, appendWp, Nat.reduceShiftRight, Nat.reduceMod, Nat.reduceLT, Nat.reduceMul, Nat.reduceSub, Int.reduceToNat, Int.reduceNeg, Int.reduceLT, Int.reduceLE, Int.reduceEq, Nat.reduceEqDiff, Nat.reduceAdd, Nat.reduceLeDiff, reduceIte, reduceCtorEq, Nat.reduceBEq, tysA, i64, Re.cells_eq re, iD, bD, h1, h3, h4, Nat.lt_irrefl]
            all_goals first | exact ⟨rfl, rfl⟩ | exact ⟨rfl, trivial⟩ | rfl | trivial | (rw [reV_eq]; rfl)
    · rw [show headNul re.kids = false by rw [hnil]; rfl]
      have hn0 : ¬ (0 : Int) < re.kids.length := by rw [hnil]; simp
      by_cases hmo : re.mode = 2
      all_goals
        simp only [usesRN, hmo, Int.reduceEq, if_true, if_false, reduceIte, or_true, true_or, or_false, false_or, reduceCtorEq]
        refine fn_ok Try.func31 rfl Try.ntmps31 Try.results31 rfl 0 2143 (by simp) (by simp) ?_
        simp only [vsA, vsB, vsC, appendWp, Nat.reduceShiftRight, Nat.reduceMod, Nat.reduceLT, Nat.reduceMul, Nat.reduceSub, Int.reduceToNat, Int.reduceNeg, Int.reduceLT, Int.reduceLE, Int.reduceEq, Nat.reduceEqDiff, Nat.reduceAdd, Nat.reduceLeDiff, reduceIte, reduceCtorEq, Nat.reduceBEq, tysA, i64, reV_eq re, iD, bD, p, hmo, hn0]
        refine loop_rule (fun n e s => ∃ i : Nat, n = re.kids.length - i ∧ i ≤ re.kids.length ∧ e 1 = .rf 0 0 0 0 ∧ e 3 = i64 (Re.usesRL (re.kids.take i) _) ∧ e 4 = i64 i ∧ s = [⟨0, true, 8, [re.cells.map .d]⟩])
          ⟨_, _, _, Cln.refl, 0, rfl, by omega, rfl, rfl, rfl, by first | simp [Re.cells_eq re, iD, bD, p, hmo] | simp [Re.cells_eq re, iD, bD]⟩ ?_
        rintro n e s ⟨i, rfl, hi, h1, h3, h4, rfl⟩
        rcases Nat.lt_or_ge i re.kids.length with hlt | hge
        · obtain ⟨k, hk⟩ : ∃ k, re.kids[i]? = some k := ⟨_, List.getElem?_eq_getElem hlt⟩
          have hm := List.mem_of_getElem? hk
          have hks := Re.size_kid hm
          simp only [vsA, vsB, vsC, appendWp, Nat.reduceShiftRight, Nat.reduceMod, Nat.reduceLT, Nat.reduceMul, Nat.reduceSub, Int.reduceToNat, Int.reduceNeg, Int.reduceLT, Int.reduceLE, Int.reduceEq, Nat.reduceEqDiff, Nat.reduceAdd, Nat.reduceLeDiff, reduceIte, reduceCtorEq, Nat.reduceBEq, tysA, i64, Re.cells_eq re, iD, bD, h1, h3, h4, hlt, hk]
          refine call_pure (ih k hm (by omega)) (by simp [refsV, refsV.go, reV_eq, i64, bV, reEl]) (by simp [refsV, refsV.go, reV_eq, i64, bV, reEl]) ?_
          simp only [vsA, vsB, vsC, appendWp, Nat.reduceShiftRight, Nat.reduceMod, Nat.reduceLT, Nat.reduceMul, Nat.reduceSub, Int.reduceToNat, Int.reduceNeg, Int.reduceLT, Int.reduceLE, Int.reduceEq, Nat.reduceEqDiff, Nat.reduceAdd, Nat.reduceLeDiff, reduceIte, reduceCtorEq, Nat.reduceBEq, tysA, i64, Re.cells_eq re, iD, bD, h1, h3, h4]
          refine ⟨re.kids.length - (i + 1), _, _, by omega, Cln.refl, i + 1, rfl, hlt, ?_, ?_, ?_, rfl⟩ <;> (try simp only [keepE_app, List.contains_cons, List.contains_nil, Nat.reduceBEq, Bool.or_false, Bool.false_or, Bool.or_true, Bool.true_or, updE, trimE_upd, trimE_trim, trimE_app, Nat.reduceShiftRight, Nat.reduceMod, Nat.reduceEqDiff, if_true, if_false, reduceIte])
          · exact h1
          · rw [take_get hk, Re.usesRL_snoc]
          · rw [w64 _ (by omega)]; rfl
        · have hie : i = re.kids.length := by omega
          subst hie
          rw [List.take_length] at h3
          simp only [vsA, vsB, vsC, appendWp, Nat.reduceShiftRight, Nat.reduceMod, Nat.reduceLT, Nat.reduceMul, Nat.reduceSub, Int.reduceToNat, Int.reduceNeg, Int.reduceLT, Int.reduceLE, Int.reduceEq, Nat.reduceEqDiff, Nat.reduceAdd, Nat.reduceLeDiff, reduceIte, reduceCtorEq, Nat.reduceBEq, tysA, i64, Re.cells_eq re, iD, bD, h1, h3, h4, Nat.lt_irrefl]
          all_goals first | exact ⟨rfl, rfl⟩ | exact ⟨rfl, trivial⟩ | rfl | trivial | (rw [reV_eq]; rfl)
  all_goals
    first
      | (obtain ⟨p1, p2, p3, p4, p5, p6, p7, p8⟩ := p
         have hu : usesRN re.op re.mode (headNul re.kids) = 0 := by simp [usesRN, p1, p2, p3, p4, p5, p6, p7, p8]
         rw [hu]
         refine fn_ok Try.func31 rfl Try.ntmps31 Try.results31 rfl 0 2143 (by simp) (by simp) ?_
         simp only [vsA, vsB, vsC, appendWp, Nat.reduceShiftRight, Nat.reduceMod, Nat.reduceLT, Nat.reduceMul, Nat.reduceSub, Int.reduceToNat, Int.reduceNeg, Int.reduceLT, Int.reduceLE, Int.reduceEq, Nat.reduceEqDiff, Nat.reduceAdd, Nat.reduceLeDiff, reduceIte, reduceCtorEq, Nat.reduceBEq, tysA, i64, reV_eq re, iD, bD, p1, p2, p3, p4, p5, p6, p7, p8])
      | (rw [p]
         simp only [usesRN, Int.reduceEq, if_true, if_false, reduceIte, or_true, true_or, or_false, false_or, reduceCtorEq]
         refine fn_ok Try.func31 rfl Try.ntmps31 Try.results31 rfl 0 2143 (by simp) (by simp) ?_
         simp only [vsA, vsB, vsC, appendWp, Nat.reduceShiftRight, Nat.reduceMod, Nat.reduceLT, Nat.reduceMul, Nat.reduceSub, Int.reduceToNat, Int.reduceNeg, Int.reduceLT, Int.reduceLE, Int.reduceEq, Nat.reduceEqDiff, Nat.reduceAdd, Nat.reduceLeDiff, reduceIte, reduceCtorEq, Nat.reduceBEq, tysA, i64, reV_eq re, iD, bD, p])
  all_goals
    refine loop_rule (fun n e s => ∃ i : Nat, n = re.kids.length - i ∧ i ≤ re.kids.length ∧ e 1 = .rf 0 0 0 0 ∧ e 3 = i64 (Re.usesRL (re.kids.take i) _) ∧ e 4 = i64 i ∧ s = [⟨0, true, 8, [re.cells.map .d]⟩])
      ⟨_, _, _, Cln.refl, 0, rfl, by omega, rfl, rfl, rfl, by first | simp [Re.cells_eq re, iD, bD, p] | simp [Re.cells_eq re, iD, bD]⟩ ?_
    rintro n e s ⟨i, rfl, hi, h1, h3, h4, rfl⟩
    rcases Nat.lt_or_ge i re.kids.length with hlt | hge
    · obtain ⟨k, hk⟩ : ∃ k, re.kids[i]? = some k := ⟨_, List.getElem?_eq_getElem hlt⟩
      have hm := List.mem_of_getElem? hk
      have hks := Re.size_kid hm
      simp only [vsA, vsB, vsC, appendWp, Nat.reduceShiftRight, Nat.reduceMod, Nat.reduceLT, Nat.reduceMul, Nat.reduceSub, Int.reduceToNat, Int.reduceNeg, Int.reduceLT, Int.reduceLE, Int.reduceEq, Nat.reduceEqDiff, Nat.reduceAdd, Nat.reduceLeDiff, reduceIte, reduceCtorEq, Nat.reduceBEq, tysA, i64, Re.cells_eq re, iD, bD, h1, h3, h4, hlt, hk]
      refine call_pure (ih k hm (by omega)) (by simp [refsV, refsV.go, reV_eq, i64, bV, reEl]) (by simp [refsV, refsV.go, reV_eq, i64, bV, reEl]) ?_
      simp only [vsA, vsB, vsC, appendWp, Nat.reduceShiftRight, Nat.reduceMod, Nat.reduceLT, Nat.reduceMul, Nat.reduceSub, Int.reduceToNat, Int.reduceNeg, Int.reduceLT, Int.reduceLE, Int.reduceEq, Nat.reduceEqDiff, Nat.reduceAdd, Nat.reduceLeDiff, reduceIte, reduceCtorEq, Nat.reduceBEq, tysA, i64, Re.cells_eq re, iD, bD, h1, h3, h4]
      refine ⟨re.kids.length - (i + 1), _, _, by omega, Cln.refl, i + 1, rfl, hlt, ?_, ?_, ?_, rfl⟩ <;> (try simp only [keepE_app, List.contains_cons, List.contains_nil, Nat.reduceBEq, Bool.or_false, Bool.false_or, Bool.or_true, Bool.true_or, updE, trimE_upd, trimE_trim, trimE_app, Nat.reduceShiftRight, Nat.reduceMod, Nat.reduceEqDiff, if_true, if_false, reduceIte])
      · exact h1
      · rw [take_get hk, Re.usesRL_snoc]
      · rw [w64 _ (by omega)]; rfl
    · have hie : i = re.kids.length := by omega
      subst hie
      rw [List.take_length] at h3
      simp only [vsA, vsB, vsC, appendWp, Nat.reduceShiftRight, Nat.reduceMod, Nat.reduceLT, Nat.reduceMul, Nat.reduceSub, Int.reduceToNat, Int.reduceNeg, Int.reduceLT, Int.reduceLE, Int.reduceEq, Nat.reduceEqDiff, Nat.reduceAdd, Nat.reduceLeDiff, reduceIte, reduceCtorEq, Nat.reduceBEq, tysA, i64, Re.cells_eq re, iD, bD, h1, h3, h4, Nat.lt_irrefl]
      all_goals first | exact ⟨rfl, rfl⟩ | exact ⟨rfl, trivial⟩ | rfl | trivial | (rw [reV_eq]; rfl)

end Go.Proofs.Ytafbdphblilenaa

set_option linter.unusedSimpArgs false
set_option linter.unusedVariables false
namespace Go.Proofs.Ytafbdphblilenaa
open Go.VL

/-! ### The plain law of measures: on valid trees both agree -/

def valB (re : Re) : Bool := decide (0 ≤ re.op ∧ re.op ≤ 11 ∧ (re.op = 4 → re.kids.length = 1 ∧ 0 ≤ re.mn ∧ re.mn ≤ 32 ∧ (re.mx = -1 ∨ (1 ≤ re.mx ∧ re.mx ≤ 32 ∧ re.mn ≤ re.mx))) ∧
  (re.op = 3 ∨ re.op = 10 ∨ re.op = 5 ∨ re.op = 9 → re.kids ≠ []) ∧ (re.op = 5 ∨ re.op = 9 → re.kids.length = 1))

theorem val_of_ok {re : Re} {caps top : Int} (h : nodeOk re caps top = true) : valB re = true := by
  obtain ⟨⟨h1, h2, h3, h4⟩, _, h5, _, _⟩ := nodeOk_iff.1 h
  refine decide_eq_true ⟨h1, h2, fun o => ?_, fun o => ?_, fun o => ?_⟩
  · rw [o] at h3 h4 h5
    simp only [kidsR, Int.reduceEq, or_self, if_false, or_true, true_or, or_false, false_or, if_true, reduceIte] at h3 h4 h5
    omega
  · intro hn
    rw [hn] at h3
    rcases o with o | o | o | o <;> rw [o] at h3 <;> simp [kidsR] at h3
  · rcases o with o | o
    all_goals
      rw [o] at h3 h4
      simp only [kidsR, Int.reduceEq, or_self, if_false, or_true, true_or, or_false, false_or, if_true, reduceIte] at h3 h4
      omega

theorem val_whole {re : Re} {caps top : Int} (h : re.whole caps top = true) : re.every valB = true := every_mono' (fun _ => val_of_ok) re h

theorem kid_of_val {re : Re} (h : valB re = true) : kidB re = true := by
  obtain ⟨_, _, h4, h5, _⟩ := of_decide_eq_true h
  refine decide_eq_true fun o => ?_
  by_cases o4 : re.op = 4
  · have := (h4 o4).1; omega
  · have := h5 (by omega)
    cases hk : re.kids with
    | nil => exact absurd hk this
    | cons k l => simp

theorem nul_lensV (re : Re) (h : re.every valB = true) : LR re.anul re.lens := by
  revert h
  refine Re.ind (Q := fun re => re.every valB = true → LR re.anul re.lens) (fun re ih h => ?_) re
  obtain ⟨h1, h2⟩ := (Re.every_iff re).1 h
  obtain ⟨o0, o11, h4, hne, _⟩ := of_decide_eq_true h1
  have hk : ∀ k ∈ re.kids, LR k.anul k.lens := fun k hk => ih k hk (h2 k hk)
  have hp : ∀ x ∈ re.kids.map (fun k => (k.anul, k.lens)), LR x.1 x.2 := fun x hx => by
    obtain ⟨k, hk', rfl⟩ := List.mem_map.1 hx
    exact hk k hk'
  rw [Re.anul_eq, Re.lens_eq]
  have m1 : (re.kids.map (fun k => (k.anul, k.lens))).map (·.1) = re.kids.map Re.anul := by simp
  have m2 : (re.kids.map (fun k => (k.anul, k.lens))).map (·.2) = re.kids.map Re.lens := by simp
  have alt : re.kids ≠ [] → LR ((re.kids.map Re.anul).any id) (altL (re.kids.map Re.lens)) := fun hn => by
    obtain ⟨k, l, hkl⟩ := List.exists_cons_of_ne_nil hn
    have hkk := hk k (by rw [hkl]; simp)
    have := alt_foldl (l.map fun k => (k.anul, k.lens)) k.anul k.lens hkk (fun x hx => by
      obtain ⟨y, hy, rfl⟩ := List.mem_map.1 hx
      exact hk y (by rw [hkl]; simp [hy]))
    rw [hkl]
    simp only [List.map_cons, altL, altF_self hkk, List.any_cons, id_eq]
    simpa [List.map_map, Function.comp_def] using this
  have hop : re.op = 0 ∨ re.op = 1 ∨ re.op = 2 ∨ re.op = 3 ∨ re.op = 4 ∨ re.op = 5 ∨ re.op = 6 ∨ re.op = 7 ∨ re.op = 8 ∨ re.op = 9 ∨ re.op = 10 ∨ re.op = 11 := by omega
  have zz : LR true (0, 0) := ⟨by decide, by decide, by decide, by decide, .inr (by decide), by decide⟩
  rcases hop with o | o | o | o | o | o | o | o | o | o | o | o
  · rw [o]; exact zz
  · have one : LR false (1, 1) := ⟨by decide, by decide, by decide, by decide, .inr (by decide), by decide⟩
    rw [o]; exact one
  · have := cat_foldl _ true (0, 0) zz hp
    rw [m1, m2, Bool.true_and] at this
    rw [o]; exact this
  · have := alt (hne (.inl o))
    rw [o]; exact this
  · obtain ⟨q1, q2, q3, q4⟩ := h4 o
    have := alt (by intro he; rw [he] at q1; cases q1)
    rw [o]
    simp only [anulOp, lensOp]
    generalize altL (re.kids.map Re.lens) = p at *
    generalize (re.kids.map Re.anul).any id = na at *
    obtain ⟨a0, a1, b0, b1, ab, nl⟩ := this
    have e1 := lt_nn a0 a1 q2 (by omega)
    have e2 : 0 ≤ p.1 * re.mn := Int.mul_nonneg a0 q2
    simp only [reduceCtorEq, Int.reduceEq, if_false, false_or, or_false, or_self, if_true, true_or, or_true]
    have key : (ltimes p.2 re.mx = -1 ∨ (0 ≤ ltimes p.2 re.mx ∧ ltimes p.1 re.mn ≤ ltimes p.2 re.mx)) ∧ ltimes p.2 re.mx ≤ 1000000 := by
      by_cases hm : re.mx = -1
      · rw [hm]
        by_cases hb : p.2 = 0
        · have ha : p.1 = 0 := by omega
          rw [hb, ha, lt_zero', lt_zero']; omega
        · rw [lt_any hb]; omega
      · have q5 : 1 ≤ re.mx ∧ re.mx ≤ 32 ∧ re.mn ≤ re.mx := by omega
        by_cases hb : p.2 = -1
        · rw [hb, lt_neg (by omega)]; omega
        · rw [lt_nn (by omega) b1 (by omega) (by omega), e1]
          have : p.1 * re.mn ≤ p.2 * re.mx := Int.mul_le_mul (by omega) q5.2.2 q2 (by omega)
          have := Int.mul_nonneg (show 0 ≤ p.2 by omega) (show 0 ≤ re.mx by omega)
          omega
    refine ⟨?_, ?_, ?_, key.2, ?_, ?_⟩ <;> simp only
    · rw [e1]; omega
    · rw [e1]; omega
    · omega
    · omega
    · rw [e1]
      split
      · rename_i hm
        rw [hm, Int.mul_zero]; exact ⟨fun _ => by omega, fun _ => rfl⟩
      · rename_i hm
        rw [nl]
        constructor
        · intro hz; rw [hz, Int.zero_mul]; omega
        · intro hz
          by_cases hz' : p.1 = 0
          · exact hz'
          · have : 0 < p.1 * re.mn := Int.mul_pos (by omega) (by omega)
            omega
  · have := alt (hne (.inr (.inr (.inl o))))
    rw [o]; exact this
  · have far : LR true (0, -1) := ⟨by decide, by decide, by decide, by decide, .inl (by decide), by decide⟩
    rw [o]; exact far
  · rw [o]; exact zz
  · rw [o]; exact zz
  · have := alt (hne (.inr (.inr (.inr o))))
    rw [o]; exact this
  · have := alt (hne (.inr (.inl o)))
    rw [o]; exact this
  · rw [o]; exact zz


theorem one_kid {l : List Re} (h : l.length = 1) : ∃ k, l = [k] := by
  match l, h with
  | [k], _ => exact ⟨k, rfl⟩

theorem anul_nul (re : Re) (h : re.every valB = true) : re.anul = re.nul := by
  revert h
  refine Re.ind (Q := fun re => re.every valB = true → re.anul = re.nul) (fun re ih h => ?_) re
  obtain ⟨h1, h2⟩ := (Re.every_iff re).1 h
  obtain ⟨o0, o11, h4, h5, h6⟩ := of_decide_eq_true h1
  have hm : re.kids.map Re.anul = re.kids.map Re.nul := List.map_congr_left (fun k hk => ih k hk (h2 k hk))
  rw [Re.anul_eq, Re.nul_eq, hm, Re.nulAll_all, Re.nulAny_any]
  have hop : re.op = 0 ∨ re.op = 1 ∨ re.op = 2 ∨ re.op = 3 ∨ re.op = 4 ∨ re.op = 5 ∨ re.op = 6 ∨ re.op = 7 ∨ re.op = 8 ∨ re.op = 9 ∨ re.op = 10 ∨ re.op = 11 := by omega
  rcases hop with o | o | o | o | o | o | o | o | o | o | o | o
  case inr.inr.inr.inr.inl =>
    obtain ⟨q1, q2, _⟩ := h4 o
    obtain ⟨k, hk⟩ := one_kid q1
    rw [o, hk]
    by_cases hz : re.mn = 0
    · simp [anulOp, hz]
    · have : ¬ re.mn ≤ 0 := by omega
      simp [anulOp, hz, this, Re.nul1]
  case inr.inr.inr.inr.inr.inl =>
    obtain ⟨k, hk⟩ := one_kid (h6 (.inl o))
    rw [o, hk]; simp [anulOp, Re.nul1]
  case inr.inr.inr.inr.inr.inr.inr.inr.inr.inl =>
    obtain ⟨k, hk⟩ := one_kid (h6 (.inr o))
    rw [o, hk]; simp [anulOp, Re.nul1]
  all_goals (rw [o]; simp [anulOp])
  all_goals (try (congr 1))

theorem rlens_lens (re : Re) (h : re.every valB = true) : re.rlens = re.lens := by
  revert h
  refine Re.ind (Q := fun re => re.every valB = true → re.rlens = re.lens) (fun re ih h => ?_) re
  obtain ⟨h1, h2⟩ := (Re.every_iff re).1 h
  obtain ⟨o0, o11, h4, h5, h6⟩ := of_decide_eq_true h1
  have hm : re.kids.map Re.rlens = re.kids.map Re.lens := List.map_congr_left (fun k hk => ih k hk (h2 k hk))
  rw [Re.rlens_eq, Re.lens_eq, hm]
  have hself : ∀ k ∈ re.kids, altF k.lens k.lens = k.lens := fun k hk => altF_self (nul_lensV k (h2 k hk))
  have halt : altR (re.kids.map Re.lens) = altL (re.kids.map Re.lens) := by
    cases hk : re.kids with
    | nil => rfl
    | cons k l =>
      simp only [List.map_cons, altR, altL]
      rw [hself k (by rw [hk]; simp)]
  have hone : re.kids.length = 1 → hdL (re.kids.map Re.lens) = altL (re.kids.map Re.lens) := by
    intro hl
    obtain ⟨k, hk⟩ := one_kid hl
    rw [hk]
    simp only [List.map_cons, List.map_nil, hdL, altL, List.headD_cons, List.foldl_nil]
    rw [hself k (by rw [hk]; simp)]
  have hop : re.op = 0 ∨ re.op = 1 ∨ re.op = 2 ∨ re.op = 3 ∨ re.op = 4 ∨ re.op = 5 ∨ re.op = 6 ∨ re.op = 7 ∨ re.op = 8 ∨ re.op = 9 ∨ re.op = 10 ∨ re.op = 11 := by omega
  rcases hop with o | o | o | o | o | o | o | o | o | o | o | o
  case inr.inr.inr.inr.inl =>
    have hq := hone (h4 o).1
    rw [o]; simp [rlensOp, lensOp, hq]
  case inr.inr.inr.inr.inr.inl => rw [o]; simp [rlensOp, lensOp, hone (h6 (.inl o))]
  case inr.inr.inr.inr.inr.inr.inr.inr.inr.inl => rw [o]; simp [rlensOp, lensOp, hone (h6 (.inr o))]
  all_goals (rw [o]; simp [rlensOp, lensOp, halt])

/-! ### Bits -/

theorem or_nat {n m : Nat} (hn : n < 128) (hm : m < 128) : bitV .or .i64 (n : Int) (m : Int) = ((n ||| m : Nat) : Int) ∧ n ||| m < 128 := by
  have hlt : n ||| m < 2 ^ 7 := Nat.or_lt_two_pow hn hm
  refine ⟨?_, hlt⟩
  have e : ∀ k : Nat, k < 128 → (BitVec.ofInt IntKind.i64.bits (k : Int)).toNat = k := by
    intro k hk
    show (BitVec.ofInt 64 (k : Int)).toNat = k
    rw [BitVec.ofInt_natCast, BitVec.toNat_ofNat]
    omega
  simp only [bitV, BitVec.toNat_or, e n hn, e m hm]
  exact w64 _ (by omega)

def UsesP (re : Re) : Prop := ∃ u : Nat, u < 128 ∧ re.usesR = u ∧ ∀ n : Nat, n < 128 → re.usesA n = ((n ||| u : Nat) : Int)

theorem usesL_eq : ∀ l : List Re, (∀ k ∈ l, UsesP k) → ∃ v : Nat, v < 128 ∧ ∀ n : Nat, n < 128 → Re.usesRL l n = ((n ||| v : Nat) : Int) ∧ Re.usesAL l n = ((n ||| v : Nat) : Int)
  | [], _ => ⟨0, by omega, fun n _ => by simp [Re.usesRL, Re.usesAL]⟩
  | k :: l, h => by
    obtain ⟨u, h1, h2, h3⟩ := h k (by simp)
    obtain ⟨v, k1, k2⟩ := usesL_eq l (fun x hx => h x (by simp [hx]))
    refine ⟨u ||| v, Nat.or_lt_two_pow (n := 7) h1 k1, fun n hn => ?_⟩
    obtain ⟨o1, o2⟩ := or_nat hn h1
    obtain ⟨a1, a2⟩ := k2 (n ||| u) o2
    simp only [Re.usesRL, Re.usesAL, h2, h3 n hn, o1, a1, a2, Nat.or_assoc, and_self]

theorem usesN_nat (op mode : Int) (l : List Bool) (b : Bool) (hb : l.headD false = b) : ∃ u : Nat, u < 128 ∧ usesN op mode l = u ∧ usesRN op mode b = u := by
  unfold usesN usesRN
  rw [hb]
  by_cases h6 : op = 6
  · exact ⟨1, by omega, by rw [if_pos h6]; rfl, by rw [if_pos h6]; rfl⟩
  rw [if_neg h6, if_neg h6]
  by_cases h10 : op = 10
  · exact ⟨2, by omega, by rw [if_pos h10]; rfl, by rw [if_pos h10]; rfl⟩
  rw [if_neg h10, if_neg h10]
  by_cases h7 : op = 7 ∨ op = 8
  · exact ⟨4, by omega, by rw [if_pos h7]; rfl, by rw [if_pos h7]; rfl⟩
  rw [if_neg h7, if_neg h7]
  by_cases h9 : op = 9
  · exact ⟨8, by omega, by rw [if_pos h9]; rfl, by rw [if_pos h9]; rfl⟩
  rw [if_neg h9, if_neg h9]
  by_cases h11 : op = 11
  · exact ⟨16, by omega, by rw [if_pos h11]; rfl, by rw [if_pos h11]; rfl⟩
  rw [if_neg h11, if_neg h11]
  by_cases h5 : op = 5
  · exact ⟨64, by omega, by rw [if_pos h5]; rfl, by rw [if_pos h5]; rfl⟩
  rw [if_neg h5, if_neg h5]
  by_cases h4 : op = 4
  · rw [if_pos h4, if_pos h4]
    by_cases hm : mode = 2
    · cases b
      · exact ⟨8, by omega, by simp only [hm, if_true]; decide, by simp [hm]⟩
      · exact ⟨40, by omega, by simp only [hm, if_true]; decide, by simp only [hm, if_true]; decide⟩
    · cases b
      · exact ⟨0, by omega, by simp [hm], by simp [hm]⟩
      · exact ⟨32, by omega, by simp only [hm, if_false, if_true]; decide, by simp only [hm, if_false, if_true]; decide⟩
  · exact ⟨0, by omega, by rw [if_neg h4]; rfl, by rw [if_neg h4]; rfl⟩

theorem uses_both (re : Re) (h : re.every valB = true) : UsesP re := by
  revert h
  refine Re.ind (Q := fun re => re.every valB = true → UsesP re) (fun re ih h => ?_) re
  obtain ⟨h1, h2⟩ := (Re.every_iff re).1 h
  obtain ⟨v, v1, v2⟩ := usesL_eq re.kids (fun k hk => ih k hk (h2 k hk))
  have hb : (re.kids.map Re.anul).headD false = headNul re.kids := by
    cases hk : re.kids with
    | nil => rfl
    | cons k l => exact anul_nul k (h2 k (by rw [hk]; simp))
  obtain ⟨u, u1, u2, u3⟩ := usesN_nat re.op re.mode (re.kids.map Re.anul) (headNul re.kids) hb
  refine ⟨u ||| v, Nat.or_lt_two_pow (n := 7) u1 v1, ?_, fun n hn => ?_⟩
  · rw [Re.usesR_eq, u3]; exact (v2 u u1).1
  · obtain ⟨o1, o2⟩ := or_nat hn u1
    rw [Re.usesA_eq, u2, o1, (v2 _ o2).2, Nat.or_assoc]

theorem uses_eq (re : Re) (h : re.every valB = true) : re.usesA 0 = re.usesR := by
  obtain ⟨u, h1, h2, h3⟩ := uses_both re h
  have := h3 0 (by omega)
  rw [Nat.zero_or] at this
  rw [h2]; exact this

end Go.Proofs.Ytafbdphblilenaa

set_option linter.unusedSimpArgs false
set_option linter.unusedVariables false
namespace Go.Proofs.Ytafbdphblilenaa
open Go.VL

/-! ### AstMeasures -/

def patC (p : Pat) : List D := p.re.cells ++ [iD p.caps, bD p.runes]

theorem patV_C (p : Pat) : patV p = .ag ((patC p).map .d) := by
  unfold patV patC; rw [List.map_append]; rfl

theorem patC_len (p : Pat) : (patC p).length = 10 := by unfold patC; simp [Re.cells_len]

theorem patC_eq (p : Pat) : patC p = [iD p.re.op, .sl (p.re.set.map spanC), .sl (p.re.kids.map Re.cells), iD p.re.mn, iD p.re.mx, iD p.re.mode, iD p.re.n, bD p.re.neg, iD p.caps, bD p.runes] := by
  unfold patC; rw [Re.cells_eq]; rfl

theorem all_ok : PureOK Try.prog 18 [] (i64 127) := by
  refine fn_ok Try.func18 rfl Try.ntmps18 Try.results18 rfl 0 1 (by simp) (by simp) ?_
  simp only [vsL, vsB, vsC, appendWp, Nat.reduceShiftRight, Nat.reduceMod, Nat.reduceLT, Nat.reduceMul, Nat.reduceSub, Int.reduceToNat, Int.reduceNeg, Int.reduceLT, Int.reduceLE, Int.reduceEq, Nat.reduceEqDiff, Nat.reduceAdd, Nat.reduceLeDiff, reduceIte, reduceCtorEq, Nat.reduceBEq, tysA, i64]

theorem quo_I64 {n : Int} (h : I64 n) : I64 (n.tdiv 2) := by
  unfold I64 at *
  rcases Int.le_total 0 n with h0 | h0
  · rw [Int.tdiv_eq_ediv_of_nonneg h0]; omega
  · have e : n.tdiv 2 = -((-n).tdiv 2) := by rw [Int.neg_tdiv, Int.neg_neg]
    rw [e, Int.tdiv_eq_ediv_of_nonneg (by omega)]; omega

set_option maxRecDepth 100000 in
set_option maxHeartbeats 8000000 in
theorem pairs_ok (l : List Int) (hl : ∀ x ∈ l, I64 x) (tat how by' : Int) (ha : I64 tat) (hh : I64 how) (hb : I64 by') : ∃ p2 p3 : Pat, p2.small 513 ∧ p3.small 1027 ∧
    PureOK Try.prog 27 [.d (intsD l), i64 tat, i64 how, i64 by'] (.d (.sl [patC (patOf l 127 30), patC p2, patC p3])) := by
  have h1 := pat_small l 127 30 hl (by omega) (by omega)
  have hp := pattern_ok l 127 30 hl (by omega) (by omega)
  generalize patOf l 127 30 = p1 at *
  obtain ⟨p2, s2, k2⟩ := spoilt_ok 256 (by omega) p1 h1 tat how by' ha hh hb
  obtain ⟨p3, s3, k3⟩ := spoilt_ok 513 (by omega) p2 s2 how tat (by'.tdiv 2) hh ha (quo_I64 hb)
  refine ⟨p2, p3, s2, s3, ?_⟩
  have w1 : IntKind.i64.wrap (by'.tdiv 2) = by'.tdiv 2 := w64 _ (quo_I64 hb)
  rw [patV_C] at hp k2 k3
  rw [patV_C p2] at k2
  rw [patV_C p3] at k3
  refine fn_ok Try.func27 rfl Try.ntmps27 Try.results27 rfl 0 1807 (by simp) (by simp) ?_
  simp only [vsL, vsB, vsC, appendWp, Nat.reduceShiftRight, Nat.reduceMod, Nat.reduceLT, Nat.reduceMul, Nat.reduceSub, Int.reduceToNat, Int.reduceNeg, Int.reduceLT, Int.reduceLE, Int.reduceEq, Nat.reduceEqDiff, Nat.reduceAdd, Nat.reduceLeDiff, reduceIte, reduceCtorEq, Nat.reduceBEq, tysA, i64]
  refine call_pure all_ok rfl rfl ?_
  simp only [vsL, vsB, vsC, appendWp, Nat.reduceShiftRight, Nat.reduceMod, Nat.reduceLT, Nat.reduceMul, Nat.reduceSub, Int.reduceToNat, Int.reduceNeg, Int.reduceLT, Int.reduceLE, Int.reduceEq, Nat.reduceEqDiff, Nat.reduceAdd, Nat.reduceLeDiff, reduceIte, reduceCtorEq, Nat.reduceBEq, tysA, i64]
  refine call_pure hp rfl (by simp only [refsV, refsV_go_d]) ?_
  simp only [vsL, vsB, vsC, appendWp, Nat.reduceShiftRight, Nat.reduceMod, Nat.reduceLT, Nat.reduceMul, Nat.reduceSub, Int.reduceToNat, Int.reduceNeg, Int.reduceLT, Int.reduceLE, Int.reduceEq, Nat.reduceEqDiff, Nat.reduceAdd, Nat.reduceLeDiff, reduceIte, reduceCtorEq, Nat.reduceBEq, tysA, i64, patC_eq p1, iD, bD]
  simp only [patC_eq p1, iD, bD, List.map_cons, List.map_nil, i64] at k2
  refine call_pure k2 (by simp [refsV, refsV.go]) (by simp only [refsV, refsV_go_d]) ?_
  simp only [vsL, vsB, vsC, appendWp, Nat.reduceShiftRight, Nat.reduceMod, Nat.reduceLT, Nat.reduceMul, Nat.reduceSub, Int.reduceToNat, Int.reduceNeg, Int.reduceLT, Int.reduceLE, Int.reduceEq, Nat.reduceEqDiff, Nat.reduceAdd, Nat.reduceLeDiff, reduceIte, reduceCtorEq, Nat.reduceBEq, tysA, i64, patC_eq p2, iD, bD]
  refine draw_c mix [] [] (by rfl) ?_
  simp only [vsL, vsB, vsC, appendWp, Nat.reduceShiftRight, Nat.reduceMod, Nat.reduceLT, Nat.reduceMul, Nat.reduceSub, Int.reduceToNat, Int.reduceNeg, Int.reduceLT, Int.reduceLE, Int.reduceEq, Nat.reduceEqDiff, Nat.reduceAdd, Nat.reduceLeDiff, reduceIte, reduceCtorEq, Nat.reduceBEq, tysA, i64, iD, bD, w1]
  simp only [patC_eq p2, iD, bD, List.map_cons, List.map_nil, i64] at k3
  refine callC_pure k3 (by simp [refsV, refsV.go]) (by simp only [refsV, refsV_go_d]) ?_
  simp only [vsL, vsB, vsC, appendWp, Nat.reduceShiftRight, Nat.reduceMod, Nat.reduceLT, Nat.reduceMul, Nat.reduceSub, Int.reduceToNat, Int.reduceNeg, Int.reduceLT, Int.reduceLE, Int.reduceEq, Nat.reduceEqDiff, Nat.reduceAdd, Nat.reduceLeDiff, reduceIte, reduceCtorEq, Nat.reduceBEq, tysA, i64, patC_eq p3, iD, bD, List.map_cons, List.map_nil]

theorem small_every_le {c c' : Nat} (h : c ≤ c') {p : Pat} (hp : p.small c) : p.small c' := ⟨every_mono' (smallB_mono h) _ hp.ev, Nat.le_trans hp.sz h, hp.caps⟩

theorem valid_val {p : Pat} (h : validR p = 0) : p.re.every valB = true := by
  unfold validR at h
  split at h
  · cases h
  · split at h
    · cases h
    · rename_i hc
      refine val_whole (caps := p.caps) (top := topR p.runes) ?_
      cases hw : p.re.whole p.caps (topR p.runes)
      · exact absurd (.inr (.inr hw)) hc
      · rfl

set_option maxRecDepth 100000 in
set_option maxHeartbeats 16000000 in
theorem astMeasures_ok (l : List Int) (hl : ∀ x ∈ l, I64 x) (tat how by' : Int) (ha : I64 tat) (hh : I64 how) (hb : I64 by') : PureOK Try.prog 5 [.d (intsD l), i64 tat, i64 how, i64 by'] (bV true) := by
  obtain ⟨p2, p3, s2, s3, hpairs⟩ := pairs_ok l hl tat how by' ha hh hb
  have s1 := pat_small l 127 30 hl (by omega) (by omega)
  generalize patOf l 127 30 = p1 at *
  have hps : ∀ p ∈ [p1, p2, p3], p.small 2000 := by
    intro p hp
    simp only [List.mem_cons, List.not_mem_nil, or_false] at hp
    rcases hp with rfl | rfl | rfl
    · exact small_every_le (by omega) s1
    · exact small_every_le (by omega) s2
    · exact small_every_le (by omega) s3
  have hmap : [patC p1, patC p2, patC p3] = [p1, p2, p3].map patC := rfl
  have hlen3 : ([p1, p2, p3] : List Pat).length = 3 := rfl
  rw [hmap] at hpairs
  generalize ([p1, p2, p3] : List Pat) = ps at *
  clear s1 s2 s3 hmap
  have hlv := lives_ok
  refine fn_ok Try.func5 rfl Try.ntmps5 Try.results5 rfl 0 65295 (by simp) (by simp) ?_
  simp only [vsL, vsB, vsC, appendWp, Nat.reduceShiftRight, Nat.reduceMod, Nat.reduceLT, Nat.reduceMul, Nat.reduceSub, Int.reduceToNat, Int.reduceNeg, Int.reduceLT, Int.reduceLE, Int.reduceEq, Nat.reduceEqDiff, Nat.reduceAdd, Nat.reduceLeDiff, reduceIte, reduceCtorEq, Nat.reduceBEq, tysA, i64]
  refine call_pure hpairs rfl rfl ?_
  simp only [vsL, vsB, vsC, appendWp, Nat.reduceShiftRight, Nat.reduceMod, Nat.reduceLT, Nat.reduceMul, Nat.reduceSub, Int.reduceToNat, Int.reduceNeg, Int.reduceLT, Int.reduceLE, Int.reduceEq, Nat.reduceEqDiff, Nat.reduceAdd, Nat.reduceLeDiff, reduceIte, reduceCtorEq, Nat.reduceBEq, tysA, i64]
  refine loop_rule (fun n e s => ∃ i : Nat, n = ps.length - i ∧ i ≤ ps.length ∧ e 9 = .d (.sl (ps.map patC)) ∧ e 10 = i64 i ∧ s = [])
    ⟨_, _, _, Cln.refl, 0, rfl, by omega, rfl, rfl, rfl⟩ ?_
  rintro n e s ⟨i, rfl, hi, h9, h10, rfl⟩
  rcases Nat.lt_or_ge i ps.length with hlt | hge
  · obtain ⟨p, hp⟩ : ∃ p, ps[i]? = some p := ⟨_, List.getElem?_eq_getElem hlt⟩
    have hsm := hps p (List.mem_of_getElem? hp)
    have hf := small_fine (by omega) p.re hsm.ev
    have hsz := hsm.sz
    have hval := refValid_ok p hf (by omega)
    rw [patV_C, patC_eq] at hval
    simp only [i64, iD, bD, List.map_cons, List.map_nil] at hval
    simp only [vsL, vsB, vsC, appendWp, Nat.reduceShiftRight, Nat.reduceMod, Nat.reduceLT, Nat.reduceMul, Nat.reduceSub, Int.reduceToNat, Int.reduceNeg, Int.reduceLT, Int.reduceLE, Int.reduceEq, Nat.reduceEqDiff, Nat.reduceAdd, Nat.reduceLeDiff, reduceIte, reduceCtorEq, Nat.reduceBEq, tysA, i64, h9, h10, hlt, hp, patC_len, patC_eq p, iD, bD]
    refine call_pure hval (by simp [refsV, refsV.go]) (by simp [refsV, refsV.go, reV_eq, i64, bV, reEl]) ?_
    by_cases hv : validR p = 0
    · have hvb := valid_val hv
      have hkb := every_mono' (fun _ => kid_of_val) p.re hvb
      have c1 := lengths_ok p.re hf
      have c2 := refLengths_ok p.re hf hkb
      rw [rlens_lens p.re hvb] at c2
      have c3 := uses_ok p.re hf
      rw [uses_eq p.re hvb] at c3
      have c4 := refUses_ok p.re (by omega)
      have c5 := nullable_ok p.re hf
      rw [anul_nul p.re hvb] at c5
      have c6 := refNullable_ok p.re (by omega)
      rw [reV_eq] at c1 c2 c3 c4 c5 c6
      simp only [i64, iD, bD] at c1 c2 c3 c4 c5 c6
      simp only [vsL, vsB, vsC, appendWp, Nat.reduceShiftRight, Nat.reduceMod, Nat.reduceLT, Nat.reduceMul, Nat.reduceSub, Int.reduceToNat, Int.reduceNeg, Int.reduceLT, Int.reduceLE, Int.reduceEq, Nat.reduceEqDiff, Nat.reduceAdd, Nat.reduceLeDiff, reduceIte, reduceCtorEq, Nat.reduceBEq, tysA, i64, hv, h9, h10, iD, bD]
      refine call_pure c1 (by simp [refsV, refsV.go, reV_eq, i64, bV, reEl]) (by simp [refsV, refsV.go, reV_eq, i64, bV, reEl]) ?_
      simp only [vsL, vsB, vsC, appendWp, Nat.reduceShiftRight, Nat.reduceMod, Nat.reduceLT, Nat.reduceMul, Nat.reduceSub, Int.reduceToNat, Int.reduceNeg, Int.reduceLT, Int.reduceLE, Int.reduceEq, Nat.reduceEqDiff, Nat.reduceAdd, Nat.reduceLeDiff, reduceIte, reduceCtorEq, Nat.reduceBEq, tysA, i64, h9, h10, iD, bD]
      refine call_pure c2 (by simp [refsV, refsV.go, reV_eq, i64, bV, reEl]) (by simp [refsV, refsV.go, reV_eq, i64, bV, reEl]) ?_
      simp only [vsL, vsB, vsC, appendWp, Nat.reduceShiftRight, Nat.reduceMod, Nat.reduceLT, Nat.reduceMul, Nat.reduceSub, Int.reduceToNat, Int.reduceNeg, Int.reduceLT, Int.reduceLE, Int.reduceEq, Nat.reduceEqDiff, Nat.reduceAdd, Nat.reduceLeDiff, reduceIte, reduceCtorEq, Nat.reduceBEq, tysA, i64, h9, h10, iD, bD]
      refine draw_c mix [] [] (by rfl) ?_
      simp only [vsL, vsB, vsC, appendWp, Nat.reduceShiftRight, Nat.reduceMod, Nat.reduceLT, Nat.reduceMul, Nat.reduceSub, Int.reduceToNat, Int.reduceNeg, Int.reduceLT, Int.reduceLE, Int.reduceEq, Nat.reduceEqDiff, Nat.reduceAdd, Nat.reduceLeDiff, reduceIte, reduceCtorEq, Nat.reduceBEq, tysA, i64, h9, h10, iD, bD]
      refine callC_pure c3 (by simp [refsV, refsV.go, reV_eq, i64, bV, reEl]) (by simp [refsV, refsV.go, reV_eq, i64, bV, reEl]) ?_
      simp only [vsL, vsB, vsC, appendWp, Nat.reduceShiftRight, Nat.reduceMod, Nat.reduceLT, Nat.reduceMul, Nat.reduceSub, Int.reduceToNat, Int.reduceNeg, Int.reduceLT, Int.reduceLE, Int.reduceEq, Nat.reduceEqDiff, Nat.reduceAdd, Nat.reduceLeDiff, reduceIte, reduceCtorEq, Nat.reduceBEq, tysA, i64, h9, h10, iD, bD]
      refine callC_pure c4 (by simp [refsV, refsV.go, reV_eq, i64, bV, reEl]) (by simp [refsV, refsV.go, reV_eq, i64, bV, reEl]) ?_
      simp only [vsL, vsB, vsC, appendWp, Nat.reduceShiftRight, Nat.reduceMod, Nat.reduceLT, Nat.reduceMul, Nat.reduceSub, Int.reduceToNat, Int.reduceNeg, Int.reduceLT, Int.reduceLE, Int.reduceEq, Nat.reduceEqDiff, Nat.reduceAdd, Nat.reduceLeDiff, reduceIte, reduceCtorEq, Nat.reduceBEq, tysA, i64, h9, h10, iD, bD]
      refine callC_pure c5 (by simp [refsV, refsV.go, reV_eq, i64, bV, reEl]) (by simp [refsV, refsV.go, reV_eq, i64, bV, reEl]) ?_
      simp only [vsL, vsB, vsC, appendWp, Nat.reduceShiftRight, Nat.reduceMod, Nat.reduceLT, Nat.reduceMul, Nat.reduceSub, Int.reduceToNat, Int.reduceNeg, Int.reduceLT, Int.reduceLE, Int.reduceEq, Nat.reduceEqDiff, Nat.reduceAdd, Nat.reduceLeDiff, reduceIte, reduceCtorEq, Nat.reduceBEq, tysA, i64, h9, h10, iD, bD]
      refine callC_pure c6 (by simp [refsV, refsV.go, reV_eq, i64, bV, reEl]) (by simp [refsV, refsV.go, reV_eq, i64, bV, reEl]) ?_
      simp only [vsL, vsB, vsC, appendWp, Nat.reduceShiftRight, Nat.reduceMod, Nat.reduceLT, Nat.reduceMul, Nat.reduceSub, Int.reduceToNat, Int.reduceNeg, Int.reduceLT, Int.reduceLE, Int.reduceEq, Nat.reduceEqDiff, Nat.reduceAdd, Nat.reduceLeDiff, reduceIte, reduceCtorEq, Nat.reduceBEq, tysA, i64, h9, h10, iD, bD, bV, beq_self_eq_true]
      refine ⟨ps.length - (i + 1), _, _, by omega, Cln.cut 0 (by omega) rfl rfl [9, 10] ?_, i + 1, rfl, hlt, ?_, ?_, rfl⟩ <;> (try simp only [keepE_app, List.contains_cons, List.contains_nil, Nat.reduceBEq, Bool.or_false, Bool.false_or, Bool.or_true, Bool.true_or, updE, trimE_upd, trimE_trim, trimE_app, Nat.reduceShiftRight, Nat.reduceMod, Nat.reduceEqDiff, if_true, if_false, reduceIte])
      · simp [updE, trimE_app, refsV, h9, h10, i64]
      · exact h9
      · rw [w64 _ (by omega)]; rfl
    · simp only [vsL, vsB, vsC, appendWp, Nat.reduceShiftRight, Nat.reduceMod, Nat.reduceLT, Nat.reduceMul, Nat.reduceSub, Int.reduceToNat, Int.reduceNeg, Int.reduceLT, Int.reduceLE, Int.reduceEq, Nat.reduceEqDiff, Nat.reduceAdd, Nat.reduceLeDiff, reduceIte, reduceCtorEq, Nat.reduceBEq, tysA, i64, hv, h9, h10, iD, bD]
      refine ⟨ps.length - (i + 1), _, _, by omega, Cln.cut 0 (by omega) rfl rfl [9, 10] ?_, i + 1, rfl, hlt, ?_, ?_, rfl⟩ <;> (try simp only [keepE_app, List.contains_cons, List.contains_nil, Nat.reduceBEq, Bool.or_false, Bool.false_or, Bool.or_true, Bool.true_or, updE, trimE_upd, trimE_trim, trimE_app, Nat.reduceShiftRight, Nat.reduceMod, Nat.reduceEqDiff, if_true, if_false, reduceIte])
      · simp [updE, trimE_app, refsV, h9, h10, i64]
      · exact h9
      · rw [w64 _ (by omega)]; rfl
  · have hie : i = ps.length := by omega
    subst hie
    simp only [vsL, vsB, vsC, appendWp, Nat.reduceShiftRight, Nat.reduceMod, Nat.reduceLT, Nat.reduceMul, Nat.reduceSub, Int.reduceToNat, Int.reduceNeg, Int.reduceLT, Int.reduceLE, Int.reduceEq, Nat.reduceEqDiff, Nat.reduceAdd, Nat.reduceLeDiff, reduceIte, reduceCtorEq, Nat.reduceBEq, tysA, i64, h9, h10, Nat.lt_irrefl]
    refine call_pure hlv rfl rfl ?_
    simp only [vsL, vsB, vsC, appendWp, Nat.reduceShiftRight, Nat.reduceMod, Nat.reduceLT, Nat.reduceMul, Nat.reduceSub, Int.reduceToNat, Int.reduceNeg, Int.reduceLT, Int.reduceLE, Int.reduceEq, Nat.reduceEqDiff, Nat.reduceAdd, Nat.reduceLeDiff, reduceIte, reduceCtorEq, Nat.reduceBEq, tysA, i64, bV]

end Go.Proofs.Ytafbdphblilenaa

/- The V-logic, part 21: a function's contract as a row asks for it: called in a world of which nothing is the call's own. -/
namespace Go.VL
open Go.ChangeShapes Go.WideShapes Go.ChangeAt Go.RowKit

def gh0 : Gh := ⟨fun _ => none, fun _ => False⟩

theorem own0 (b : Nat) : ¬ Own gh0 [] b := by
  rintro (h | ⟨id, o, base, h1, _⟩)
  · exact h
  · simp at h1

theorem inv0 (w : World) : Inv gh0 [] w :=
  ⟨fun id o h => by simp at h, fun id id' o o' b base base' h => by simp at h, fun b h => h.elim, fun id o b base h => by simp at h⟩

theorem run_pure {P : Program} {f : FuncId} {args : List V} {r : Bool} {vals : Array Value} {W : World} (h : PureOK P f args (.d (.sc (.bool r)))) (hv : vals.size = args.length) (hrep : ∀ (i : Nat) (x : V), args[i]? = some x → RepV gh0 [] W x (vals.getD i undef)) :
    Calls P f vals W fun e w' => e = .returned (.bool r) ∧ Below W.heap.size W w' := by
  refine (h.2 gh0 W vals (inv0 W) hv hrep).mono fun e w' ⟨u, v, σ', s', h1, h2, h3, h4, h5, h6⟩ => ?_
  subst h5
  cases h4 with | d h4 => ?_
  cases h4 with | sc _ _ => ?_
  exact ⟨h1, h2.os, h2.tape, h2.output, h2.size, fun b hb => h2.keep b hb (own0 b)⟩

theorem rep_int {W : World} (k : IntKind) (n : Int) : RepV gh0 [] W (.d (.sc (.int k n))) (.int k n) := .d (.sc _ rfl)

/-- A slice of integers that came in. -/
theorem rep_ints {W : World} {a : Addr} {len cap : Nat} {zs : List Int} {k : IntKind} (hl : len ≤ cap) (hz : zs.length = cap) (hcell : ∀ i, i < zs.length → W.cell? (a.add i) = some (.int k (zs.getD i 0))) :
    RepV gh0 [] W (.d (.sl ((zs.take len).map fun x => [D.sc (.int k x)]))) (.slice (some a) len cap) := by
  have hlen : ((zs.take len).map fun x => [D.sc (Value.int k x)]).length = len := by simp; omega
  have hcon := RepD.sl (O := Own gh0 []) (w := W) ((zs.take len).map fun x => [D.sc (.int k x)]) a cap 1 (fun i _ => .int k (zs.getD i 0)) (by rw [hlen]; exact hl)
    (fun hne => by
      have : 0 < len := by
        rcases Nat.eq_zero_or_pos len with h | h
        · subst h; simp at hne
        · exact h
      have := World.cell?_spot (hcell 0 (by omega))
      simpa [Addr.add] using this)
    (fun e he => by obtain ⟨x, _, rfl⟩ := List.mem_map.1 he; rfl)
    (fun i j x hx => by
      simp only [List.getElem?_map] at hx
      cases hi : (zs.take len)[i]? with
      | none => simp [hi] at hx
      | some y =>
        simp only [hi, Option.map_some, Option.bind_some] at hx
        have hj : j = 0 := by cases j with | zero => rfl | succ j => simp at hx
        subst hj
        have hil : i < len ∧ i < zs.length := by
          have := (List.getElem?_eq_some_iff.1 hi).1
          simp at this; omega
        refine ⟨?_, own0 _⟩
        have hsp := World.cell?_spot (hcell 0 (by omega))
        have hc := hcell i hil.2
        obtain ⟨b, off, sp⟩ := a
        have hsp' : sp = none := by simpa [Addr.add] using hsp
        subst hsp'
        rw [add_plain] at hc
        simpa using hc)
    (fun i j x hx => by
      simp only [List.getElem?_map] at hx
      cases hi : (zs.take len)[i]? with
      | none => simp [hi] at hx
      | some y =>
        simp only [hi, Option.map_some, Option.bind_some] at hx
        have hj : j = 0 := by cases j with | zero => rfl | succ j => simp at hx
        subst hj
        simp only [List.getElem?_cons_zero, Option.some.injEq] at hx
        subst hx
        have hil : i < len ∧ i < zs.length := by
          have := (List.getElem?_eq_some_iff.1 hi).1
          simp at this; omega
        have hy : zs.getD i 0 = y := by
          rw [List.getElem?_take, if_pos hil.1] at hi
          simp [List.getD, hi]
        rw [hy]
        exact .sc _ rfl)
  rw [hlen] at hcon
  exact .d hcon

end Go.VL

/- The V-logic, part 24: a row's arguments. -/
namespace Go.VL
open Go.ChangeShapes Go.WideShapes Go.ChangeAt Go.RowKit

/-- A slice of integers that is handed in, as a list. -/
theorem open_slV {H : Type} {enc : TypeId × Value → H} {P : Program} {W : World} {t e : TypeId} {k : IntKind} {a0 : Option Addr} {len cap : Nat} {d : DataW H} {ps : List MemPlace} (ht : P.underlying t = some (.slice e)) (he : P.underlying e = some (.int k)) (hc : P.cellsOf e = 1)
    (h : DataW.Trod enc P W 0 (fun _ => true) true t (.slice a0 len cap) d ps) :
    ∃ l : List Int, (∀ x ∈ l, (Lit.int k x).wf = true) ∧ RepV gh0 [] W (.d (.sl (l.map fun x => [D.sc (.int k x)]))) (.slice a0 len cap) := by
  obtain ⟨fuel0, hf⟩ := h
  rcases open_ints ht he hc hf with ⟨hcs, hx⟩ | ⟨a, len', cap', zs, hcs, _, hl, hm, hz, hx, hcell, hwz⟩
  · simp [Value.cells] at hcs
    obtain ⟨rfl, rfl, rfl⟩ := hcs
    exact ⟨[], fun x hx => by (cases hx), .d .nil⟩
  · simp [Value.cells] at hcs
    obtain ⟨rfl, rfl, rfl⟩ := hcs
    simp only [if_true] at hz
    exact ⟨zs.take len, fun x hx => hwz x (List.mem_of_mem_take hx), rep_ints hl hz hcell⟩

section
variable {H : Type} {enc : TypeId × Value → H} {P : Program} {w : World} {base : Nat} {spare : Nat → Bool} {held : Bool}

theorem trodAll_5 {t0 t1 t2 t3 t4 : TypeId} {args : Array Value} {ds : List (DataW H)} {ps : List MemPlace} (h : DataW.TrodAll enc P w base spare held [t0, t1, t2, t3, t4] args.toList ds ps) :
    ∃ v0 v1 v2 v3 v4 d0 d1 d2 d3 d4 p0 p1 p2 p3 p4, args = #[v0, v1, v2, v3, v4] ∧ ds = [d0, d1, d2, d3, d4] ∧ ps = p0 ++ p1 ++ p2 ++ p3 ++ p4 ∧ DataW.Trod enc P w base spare held t0 v0 d0 p0 ∧ DataW.Trod enc P w base spare held t1 v1 d1 p1 ∧ DataW.Trod enc P w base spare held t2 v2 d2 p2 ∧ DataW.Trod enc P w base spare held t3 v3 d3 p3 ∧ DataW.Trod enc P w base spare held t4 v4 d4 p4 := by
  obtain ⟨v0, vs0, d0, ds0, p0, q0, hargs, rfl, rfl, h0, r0⟩ := trodAll_cons h
  obtain ⟨v1, vs1, d1, ds1, p1, q1, rfl, rfl, rfl, h1, r1⟩ := trodAll_cons r0
  obtain ⟨v2, vs2, d2, ds2, p2, q2, rfl, rfl, rfl, h2, r2⟩ := trodAll_cons r1
  obtain ⟨v3, vs3, d3, ds3, p3, q3, rfl, rfl, rfl, h3, r3⟩ := trodAll_cons r2
  obtain ⟨v4, vs4, d4, ds4, p4, q4, rfl, rfl, rfl, h4, r4⟩ := trodAll_cons r3
  obtain ⟨rfl, rfl, rfl⟩ := trodAll_nil r4
  exact ⟨v0, v1, v2, v3, v4, d0, d1, d2, d3, d4, p0, p1, p2, p3, p4, by cases args; simp_all, rfl, by simp, h0, h1, h2, h3, h4⟩

theorem trodAll_6 {t0 t1 t2 t3 t4 t5 : TypeId} {args : Array Value} {ds : List (DataW H)} {ps : List MemPlace} (h : DataW.TrodAll enc P w base spare held [t0, t1, t2, t3, t4, t5] args.toList ds ps) :
    ∃ v0 v1 v2 v3 v4 v5 d0 d1 d2 d3 d4 d5 p0 p1 p2 p3 p4 p5, args = #[v0, v1, v2, v3, v4, v5] ∧ ds = [d0, d1, d2, d3, d4, d5] ∧ ps = p0 ++ p1 ++ p2 ++ p3 ++ p4 ++ p5 ∧ DataW.Trod enc P w base spare held t0 v0 d0 p0 ∧ DataW.Trod enc P w base spare held t1 v1 d1 p1 ∧ DataW.Trod enc P w base spare held t2 v2 d2 p2 ∧ DataW.Trod enc P w base spare held t3 v3 d3 p3 ∧ DataW.Trod enc P w base spare held t4 v4 d4 p4 ∧ DataW.Trod enc P w base spare held t5 v5 d5 p5 := by
  obtain ⟨v0, vs0, d0, ds0, p0, q0, hargs, rfl, rfl, h0, r0⟩ := trodAll_cons h
  obtain ⟨v1, vs1, d1, ds1, p1, q1, rfl, rfl, rfl, h1, r1⟩ := trodAll_cons r0
  obtain ⟨v2, vs2, d2, ds2, p2, q2, rfl, rfl, rfl, h2, r2⟩ := trodAll_cons r1
  obtain ⟨v3, vs3, d3, ds3, p3, q3, rfl, rfl, rfl, h3, r3⟩ := trodAll_cons r2
  obtain ⟨v4, vs4, d4, ds4, p4, q4, rfl, rfl, rfl, h4, r4⟩ := trodAll_cons r3
  obtain ⟨v5, vs5, d5, ds5, p5, q5, rfl, rfl, rfl, h5, r5⟩ := trodAll_cons r4
  obtain ⟨rfl, rfl, rfl⟩ := trodAll_nil r5
  exact ⟨v0, v1, v2, v3, v4, v5, d0, d1, d2, d3, d4, d5, p0, p1, p2, p3, p4, p5, by cases args; simp_all, rfl, by simp, h0, h1, h2, h3, h4, h5⟩
end

end Go.VL
