/- Part of the proof: the program logic, or what some functions compute (F41). -/
import Derived.Test.YtafbdphblilenaaE3
import Derived.Test.YtafbdphblilenaaE7
set_option linter.unusedSimpArgs false
set_option linter.unusedVariables false
set_option linter.unusedSimpArgs false
set_option linter.unusedVariables false
namespace Go.Proofs.Ytafbdphblilenaa
open Go.VL

/-! ### The reference's lengths -/

def altR : List (Int × Int) → Int × Int
  | [] => (0, 0)
  | k :: l => l.foldl altF k

def hdL (l : List (Int × Int)) : Int × Int := l.headD (0, 0)

def rlensOp (op mn mx : Int) (l : List (Int × Int)) : Int × Int :=
  if op = 1 then (1, 1)
  else if op = 6 then (0, -1)
  else if op = 2 then catL l
  else if op = 3 ∨ op = 10 then altR l
  else if op = 4 then (ltimes (hdL l).1 mn, ltimes (hdL l).2 mx)
  else if op = 5 ∨ op = 9 then hdL l
  else (0, 0)

mutual
def Re.rlens : Re → Int × Int
  | .mk op _ kids mn mx _ _ _ => rlensOp op mn mx (Re.rlensL kids)
def Re.rlensL : List Re → List (Int × Int)
  | [] => []
  | k :: l => k.rlens :: Re.rlensL l
end

theorem Re.rlensL_eq : ∀ l : List Re, Re.rlensL l = l.map Re.rlens
  | [] => by simp [Re.rlensL]
  | k :: l => by simp [Re.rlensL, Re.rlensL_eq l]

theorem Re.rlens_eq (re : Re) : re.rlens = rlensOp re.op re.mn re.mx (re.kids.map Re.rlens) := by
  cases re; simp [Re.rlens, Re.rlensL_eq, Re.op, Re.mn, Re.mx, Re.kids]

/-- Where a first kid is read, there is one. -/
def kidB (r : Re) : Bool := decide (r.op = 3 ∨ r.op = 10 ∨ r.op = 4 ∨ r.op = 5 ∨ r.op = 9 → 0 < r.kids.length)

def loO (g : Nat) (L : List (Int × Int)) : VL.Obj := ⟨g, true, 1, L.map fun x => [V.d (.sc (.int .i64 x.1))]⟩
def hiO (g : Nat) (L : List (Int × Int)) : VL.Obj := ⟨g, true, 1, L.map fun x => [V.d (.sc (.int .i64 x.2))]⟩

def boxRe (re : Re) : VL.Obj := ⟨0, true, 8, [re.cells.map .d]⟩

theorem altR_snoc {l : List (Int × Int)} (h : l ≠ []) (k : Int × Int) : altR (l ++ [k]) = altF (altR l) k := by
  cases l with
  | nil => exact absurd rfl h
  | cons x l => simp [altR, List.foldl_append]

set_option maxRecDepth 100000 in
set_option maxHeartbeats 16000000 in
theorem refLengths_ok (re : Re) (hf : re.fine = true) (hk : re.every kidB = true) : PureOK Try.prog 29 [reV re] (.tu [i64 re.rlens.1, i64 re.rlens.2]) := by
  revert hf hk
  refine Re.ind (Q := fun re => re.fine = true → re.every kidB = true → PureOK Try.prog 29 [reV re] (.tu [i64 re.rlens.1, i64 re.rlens.2])) (fun re ih hf hk => ?_) re
  obtain ⟨hset1, hlen, hfk⟩ := Re.fine_spec hf
  obtain ⟨hk1, hk2⟩ := (Re.every_iff re).1 hk
  simp only [kidB, decide_eq_true_eq] at hk1
  rw [Re.rlens_eq]
  refine fn_ok Try.func29 rfl Try.ntmps29 Try.results29 rfl 0 1298074214633854481086313270378495 (by simp) (by simp) ?_
  simp only [vsL, vsB, vsC, appendWp, Nat.reduceShiftRight, Nat.reduceMod, Nat.reduceLT, Nat.reduceMul, Nat.reduceSub, Int.reduceToNat, Int.reduceNeg, Int.reduceLT, Int.reduceLE, Int.reduceEq, Nat.reduceEqDiff, Nat.reduceAdd, Nat.reduceLeDiff, reduceIte, reduceCtorEq, Nat.reduceBEq, tysA, i64, reV_eq re, iD, bD]
  refine loop_rule (fun n e s => ∃ i : Nat, n = re.kids.length - i ∧ i ≤ re.kids.length ∧ e 1 = .rf 0 0 0 0 ∧ e 6 = i64 i ∧
      ((i = 0 ∧ e 4 = .fu [] ∧ e 5 = .fu [] ∧ s = [boxRe re]) ∨ ∃ g, 0 < i ∧ e 4 = .so 1 g 0 i ∧ e 5 = .so 2 g 0 i ∧ s = [boxRe re, loO g ((re.kids.map Re.rlens).take i), hiO g ((re.kids.map Re.rlens).take i)]))
    ⟨_, _, _, Cln.refl, 0, rfl, by omega, rfl, rfl, .inl ⟨rfl, rfl, rfl, by simp [boxRe, Re.cells_eq re, iD, bD]⟩⟩ ?_
  rintro n e s ⟨i, rfl, hi, h1, h6, hacc⟩
  have hbox : boxRe re = ⟨0, true, 8, [[i64 re.op, .d (.sl (re.set.map spanC)), .d (.sl (re.kids.map Re.cells)), i64 re.mn, i64 re.mx, i64 re.mode, i64 re.n, bV re.neg]]⟩ := by
    unfold boxRe; rw [Re.cells_eq]; rfl
  rcases Nat.lt_or_ge i re.kids.length with hlt | hge
  · obtain ⟨k, hkk⟩ : ∃ k, re.kids[i]? = some k := ⟨_, List.getElem?_eq_getElem hlt⟩
    have hm := List.mem_of_getElem? hkk
    have hkl : (re.kids.map Re.rlens)[i]? = some k.rlens := by rw [List.getElem?_map, hkk]; rfl
    rcases hacc with ⟨rfl, h4, h5, rfl⟩ | ⟨g, hi0, h4, h5, rfl⟩
    · simp only [vsL, vsB, vsC, appendWp, Nat.reduceShiftRight, Nat.reduceMod, Nat.reduceLT, Nat.reduceMul, Nat.reduceSub, Int.reduceToNat, Int.reduceNeg, Int.reduceLT, Int.reduceLE, Int.reduceEq, Nat.reduceEqDiff, Nat.reduceAdd, Nat.reduceLeDiff, reduceIte, reduceCtorEq, Nat.reduceBEq, tysA, i64, bV, hbox, iD, bD, h1, h4, h5, h6, hlt, hkk]
      refine call_pure (ih k hm (hfk k hm) (hk2 k hm)) (by simp [refsV, refsV.go, reV_eq, i64, bV, reEl]) (by simp [refsV, refsV.go, reV_eq, i64, bV, reEl]) ?_
      simp only [vsL, vsB, vsC, appendWp, Nat.reduceShiftRight, Nat.reduceMod, Nat.reduceLT, Nat.reduceMul, Nat.reduceSub, Int.reduceToNat, Int.reduceNeg, Int.reduceLT, Int.reduceLE, Int.reduceEq, Nat.reduceEqDiff, Nat.reduceAdd, Nat.reduceLeDiff, reduceIte, reduceCtorEq, Nat.reduceBEq, tysA, i64, bV, hbox, iD, bD, h1, h4, h5, h6]
      refine ⟨by simp, by simp, by simp, by simp, re.kids.length - 1, _, _, by omega, Cln.refl, 1, rfl, by omega, ?_, ?_, .inr ⟨0, by omega, ?_, ?_, ?_⟩⟩ <;> (try simp only [keepE_app, List.contains_cons, List.contains_nil, Nat.reduceBEq, Bool.or_false, Bool.false_or, Bool.or_true, Bool.true_or, updE, trimE_upd, trimE_trim, trimE_app, Nat.reduceShiftRight, Nat.reduceMod, Nat.reduceEqDiff, if_true, if_false, reduceIte])
      · exact h1
      · rw [w64 _ (by omega)]; rfl
      · rw [take_get hkl]; simp [loO, hiO]
    · simp only [vsL, vsB, vsC, appendWp, Nat.reduceShiftRight, Nat.reduceMod, Nat.reduceLT, Nat.reduceMul, Nat.reduceSub, Int.reduceToNat, Int.reduceNeg, Int.reduceLT, Int.reduceLE, Int.reduceEq, Nat.reduceEqDiff, Nat.reduceAdd, Nat.reduceLeDiff, reduceIte, reduceCtorEq, Nat.reduceBEq, tysA, i64, bV, hbox, iD, bD, h1, h4, h5, h6, hlt, hkk]
      refine call_pure (ih k hm (hfk k hm) (hk2 k hm)) (by simp [refsV, refsV.go, reV_eq, i64, bV, reEl]) (by simp [refsV, refsV.go, reV_eq, i64, bV, reEl]) ?_
      simp only [vsL, vsB, vsC, appendWp, Nat.reduceShiftRight, Nat.reduceMod, Nat.reduceLT, Nat.reduceMul, Nat.reduceSub, Int.reduceToNat, Int.reduceNeg, Int.reduceLT, Int.reduceLE, Int.reduceEq, Nat.reduceEqDiff, Nat.reduceAdd, Nat.reduceLeDiff, reduceIte, reduceCtorEq, Nat.reduceBEq, tysA, i64, bV, hbox, iD, bD, h1, h4, h5, h6, loO, hiO]
      have hcl : (List.take i (re.kids.map Re.rlens)).length = i := by simp; omega
      refine ⟨by simp, ⟨by omega, by omega⟩, by simp, ⟨by omega, by omega⟩, re.kids.length - (i + 1), _, _, by omega, Cln.refl, i + 1, rfl, by omega, ?_, ?_, .inr ⟨g + 1, by omega, ?_, ?_, ?_⟩⟩ <;> (try simp only [keepE_app, List.contains_cons, List.contains_nil, Nat.reduceBEq, Bool.or_false, Bool.false_or, Bool.or_true, Bool.true_or, updE, trimE_upd, trimE_trim, trimE_app, Nat.reduceShiftRight, Nat.reduceMod, Nat.reduceEqDiff, if_true, if_false, reduceIte])
      · exact h1
      · rw [w64 _ (by omega)]; rfl
      · rw [take_get hkl]
        simp [loO, hiO, List.take_take]
  · have hie : i = re.kids.length := by omega
    subst hie
    have hLl : (re.kids.map Re.rlens).length = re.kids.length := by simp
    have hLt : (re.kids.map Re.rlens).take re.kids.length = re.kids.map Re.rlens := List.take_of_length_le (by simp)
    rw [hLt] at hacc
    generalize re.kids.map Re.rlens = L at *
    have hcase : re.op = 1 ∨ re.op = 6 ∨ re.op = 2 ∨ re.op = 3 ∨ re.op = 10 ∨ re.op = 4 ∨ re.op = 5 ∨ re.op = 9 ∨ (¬ re.op = 1 ∧ ¬ re.op = 6 ∧ ¬ re.op = 2 ∧ ¬ re.op = 3 ∧ ¬ re.op = 10 ∧ ¬ re.op = 4 ∧ ¬ re.op = 5 ∧ ¬ re.op = 9) := by omega
    rcases hacc with ⟨h0, h4, h5, rfl⟩ | ⟨g, hi0, h4, h5, rfl⟩
    · have hL : L = [] := List.eq_nil_of_length_eq_zero (by omega)
      subst hL
      rcases hcase with p | p | p | p | p | p | p | p | ⟨p1, p2, p3, p4, p5, p6, p7, p8⟩
      case inr.inr.inr.inl => have := hk1 (by omega); omega
      case inr.inr.inr.inr.inl => have := hk1 (by omega); omega
      case inr.inr.inr.inr.inr.inl => have := hk1 (by omega); omega
      case inr.inr.inr.inr.inr.inr.inl => have := hk1 (by omega); omega
      case inr.inr.inr.inr.inr.inr.inr.inl => have := hk1 (by omega); omega
      · rw [p]
        simp only [vsL, vsB, vsC, appendWp, Nat.reduceShiftRight, Nat.reduceMod, Nat.reduceLT, Nat.reduceMul, Nat.reduceSub, Int.reduceToNat, Int.reduceNeg, Int.reduceLT, Int.reduceLE, Int.reduceEq, Nat.reduceEqDiff, Nat.reduceAdd, Nat.reduceLeDiff, reduceIte, reduceCtorEq, Nat.reduceBEq, tysA, i64, bV, hbox, iD, bD, h1, h4, h5, h6, Nat.lt_irrefl, p]
        all_goals first | exact ⟨rfl, rfl⟩ | exact ⟨rfl, trivial⟩ | rfl | trivial | (rw [reV_eq]; rfl)
      · rw [p]
        simp only [vsL, vsB, vsC, appendWp, Nat.reduceShiftRight, Nat.reduceMod, Nat.reduceLT, Nat.reduceMul, Nat.reduceSub, Int.reduceToNat, Int.reduceNeg, Int.reduceLT, Int.reduceLE, Int.reduceEq, Nat.reduceEqDiff, Nat.reduceAdd, Nat.reduceLeDiff, reduceIte, reduceCtorEq, Nat.reduceBEq, tysA, i64, bV, hbox, iD, bD, h1, h4, h5, h6, Nat.lt_irrefl, p]
        all_goals first | exact ⟨rfl, rfl⟩ | exact ⟨rfl, trivial⟩ | rfl | trivial | (rw [reV_eq]; rfl)
      · rw [p]
        simp only [vsL, vsB, vsC, appendWp, Nat.reduceShiftRight, Nat.reduceMod, Nat.reduceLT, Nat.reduceMul, Nat.reduceSub, Int.reduceToNat, Int.reduceNeg, Int.reduceLT, Int.reduceLE, Int.reduceEq, Nat.reduceEqDiff, Nat.reduceAdd, Nat.reduceLeDiff, reduceIte, reduceCtorEq, Nat.reduceBEq, tysA, i64, bV, hbox, iD, bD, h1, h4, h5, h6, Nat.lt_irrefl, p]
        refine loop_rule (fun n e s => e 4 = .fu [] ∧ e 5 = .fu [] ∧ e 9 = i64 0 ∧ e 10 = i64 0 ∧ e 11 = i64 0) ⟨0, _, _, Cln.refl, ?_, ?_, rfl, rfl, rfl⟩ ?_ <;> (try simp only [keepE_app, List.contains_cons, List.contains_nil, Nat.reduceBEq, Bool.or_false, Bool.false_or, Bool.or_true, Bool.true_or, updE, trimE_upd, trimE_trim, trimE_app, Nat.reduceShiftRight, Nat.reduceMod, Nat.reduceEqDiff, if_true, if_false, reduceIte])
        · exact h4
        · exact h5
        rintro n e s ⟨h4, h5, h9, h10, h11⟩
        simp only [vsL, vsB, vsC, appendWp, Nat.reduceShiftRight, Nat.reduceMod, Nat.reduceLT, Nat.reduceMul, Nat.reduceSub, Int.reduceToNat, Int.reduceNeg, Int.reduceLT, Int.reduceLE, Int.reduceEq, Nat.reduceEqDiff, Nat.reduceAdd, Nat.reduceLeDiff, reduceIte, reduceCtorEq, Nat.reduceBEq, tysA, i64, h4, h5, h9, h10, h11, Int.natCast_zero]
        all_goals first | exact ⟨rfl, rfl⟩ | exact ⟨rfl, trivial⟩ | rfl | trivial | (rw [reV_eq]; rfl)
      · rw [show rlensOp re.op re.mn re.mx [] = (0, 0) by simp [rlensOp, p1, p2, p3, p4, p5, p6, p7, p8]]
        simp only [vsL, vsB, vsC, appendWp, Nat.reduceShiftRight, Nat.reduceMod, Nat.reduceLT, Nat.reduceMul, Nat.reduceSub, Int.reduceToNat, Int.reduceNeg, Int.reduceLT, Int.reduceLE, Int.reduceEq, Nat.reduceEqDiff, Nat.reduceAdd, Nat.reduceLeDiff, reduceIte, reduceCtorEq, Nat.reduceBEq, tysA, i64, bV, hbox, iD, bD, h1, h4, h5, h6, Nat.lt_irrefl, p1, p2, p3, p4, p5, p6, p7, p8]
        all_goals first | exact ⟨rfl, rfl⟩ | exact ⟨rfl, trivial⟩ | rfl | trivial | (rw [reV_eq]; rfl)
    · obtain ⟨k0, L0, rfl⟩ : ∃ k l, L = k :: l := by
        cases L with
        | nil => simp at hLl; omega
        | cons k l => exact ⟨k, l, rfl⟩
      rcases hcase with p | p | p | p | p | p | p | p | ⟨p1, p2, p3, p4, p5, p6, p7, p8⟩
      · rw [p]
        simp only [vsL, vsB, vsC, appendWp, Nat.reduceShiftRight, Nat.reduceMod, Nat.reduceLT, Nat.reduceMul, Nat.reduceSub, Int.reduceToNat, Int.reduceNeg, Int.reduceLT, Int.reduceLE, Int.reduceEq, Nat.reduceEqDiff, Nat.reduceAdd, Nat.reduceLeDiff, reduceIte, reduceCtorEq, Nat.reduceBEq, tysA, i64, bV, hbox, iD, bD, h1, h4, h5, h6, Nat.lt_irrefl, p]
        all_goals first | exact ⟨rfl, rfl⟩ | exact ⟨rfl, trivial⟩ | rfl | trivial | (rw [reV_eq]; rfl)
      · rw [p]
        simp only [vsL, vsB, vsC, appendWp, Nat.reduceShiftRight, Nat.reduceMod, Nat.reduceLT, Nat.reduceMul, Nat.reduceSub, Int.reduceToNat, Int.reduceNeg, Int.reduceLT, Int.reduceLE, Int.reduceEq, Nat.reduceEqDiff, Nat.reduceAdd, Nat.reduceLeDiff, reduceIte, reduceCtorEq, Nat.reduceBEq, tysA, i64, bV, hbox, iD, bD, h1, h4, h5, h6, Nat.lt_irrefl, p]
        all_goals first | exact ⟨rfl, rfl⟩ | exact ⟨rfl, trivial⟩ | rfl | trivial | (rw [reV_eq]; rfl)
      · rw [p]
        generalize k0 :: L0 = LL at *
        simp only [vsL, vsB, vsC, appendWp, Nat.reduceShiftRight, Nat.reduceMod, Nat.reduceLT, Nat.reduceMul, Nat.reduceSub, Int.reduceToNat, Int.reduceNeg, Int.reduceLT, Int.reduceLE, Int.reduceEq, Nat.reduceEqDiff, Nat.reduceAdd, Nat.reduceLeDiff, reduceIte, reduceCtorEq, Nat.reduceBEq, tysA, i64, bV, hbox, iD, bD, h1, h4, h5, h6, Nat.lt_irrefl, p]
        refine loop_rule (fun n e s => ∃ j : Nat, n = LL.length - j ∧ j ≤ LL.length ∧ e 4 = .so 1 g 0 re.kids.length ∧ e 5 = .so 2 g 0 re.kids.length ∧ e 9 = i64 (catL (LL.take j)).1 ∧ e 10 = i64 (catL (LL.take j)).2 ∧ e 11 = i64 j ∧ s = [boxRe re, loO g LL, hiO g LL])
          ⟨_, _, _, Cln.refl, 0, rfl, by omega, ?_, ?_, rfl, rfl, rfl, by rw [hbox, p]; rfl⟩ ?_ <;> (try simp only [keepE_app, List.contains_cons, List.contains_nil, Nat.reduceBEq, Bool.or_false, Bool.false_or, Bool.or_true, Bool.true_or, updE, trimE_upd, trimE_trim, trimE_app, Nat.reduceShiftRight, Nat.reduceMod, Nat.reduceEqDiff, if_true, if_false, reduceIte])
        · exact h4
        · exact h5
        clear h1 h4 h5 h6
        rintro n e s ⟨j, rfl, hj, h4, h5, h9, h10, h11, rfl⟩
        rcases Nat.lt_or_ge j LL.length with hlt | hge
        · obtain ⟨x, hx⟩ : ∃ x, LL[j]? = some x := ⟨_, List.getElem?_eq_getElem hlt⟩
          have hjk : j < re.kids.length := by omega
          simp only [vsL, vsB, vsC, appendWp, Nat.reduceShiftRight, Nat.reduceMod, Nat.reduceLT, Nat.reduceMul, Nat.reduceSub, Int.reduceToNat, Int.reduceNeg, Int.reduceLT, Int.reduceLE, Int.reduceEq, Nat.reduceEqDiff, Nat.reduceAdd, Nat.reduceLeDiff, reduceIte, reduceCtorEq, Nat.reduceBEq, tysA, i64, bV, hbox, iD, bD, h4, h5, h9, h10, h11, hjk, loO, hiO, Nat.zero_add, hx]
          refine call_pure (refPlus_ok _ _) (by simp [refsV, refsV.go, reV_eq, i64, bV, reEl]) (by simp [refsV, refsV.go, reV_eq, i64, bV, reEl]) ?_
          simp only [vsL, vsB, vsC, appendWp, Nat.reduceShiftRight, Nat.reduceMod, Nat.reduceLT, Nat.reduceMul, Nat.reduceSub, Int.reduceToNat, Int.reduceNeg, Int.reduceLT, Int.reduceLE, Int.reduceEq, Nat.reduceEqDiff, Nat.reduceAdd, Nat.reduceLeDiff, reduceIte, reduceCtorEq, Nat.reduceBEq, tysA, i64, bV, hbox, iD, bD, h4, h5, h9, h10, h11, hjk, loO, hiO, Nat.zero_add, hx]
          refine call_pure (refPlus_ok _ _) (by simp [refsV, refsV.go, reV_eq, i64, bV, reEl]) (by simp [refsV, refsV.go, reV_eq, i64, bV, reEl]) ?_
          simp only [vsL, vsB, vsC, appendWp, Nat.reduceShiftRight, Nat.reduceMod, Nat.reduceLT, Nat.reduceMul, Nat.reduceSub, Int.reduceToNat, Int.reduceNeg, Int.reduceLT, Int.reduceLE, Int.reduceEq, Nat.reduceEqDiff, Nat.reduceAdd, Nat.reduceLeDiff, reduceIte, reduceCtorEq, Nat.reduceBEq, tysA, i64, bV, hbox, iD, bD, h4, h5, h9, h10, h11]
          refine ⟨LL.length - (j + 1), _, _, by omega, Cln.refl, j + 1, rfl, hlt, ?_, ?_, ?_, ?_, ?_, rfl⟩ <;> (try simp only [keepE_app, List.contains_cons, List.contains_nil, Nat.reduceBEq, Bool.or_false, Bool.false_or, Bool.or_true, Bool.true_or, updE, trimE_upd, trimE_trim, trimE_app, Nat.reduceShiftRight, Nat.reduceMod, Nat.reduceEqDiff, if_true, if_false, reduceIte])
          · exact h4
          · exact h5
          · rw [take_get hx, catL_snoc]
          · rw [take_get hx, catL_snoc]
          · rw [w64 _ (by omega)]; rfl
        · have hje : j = LL.length := by omega
          subst hje
          rw [List.take_length] at h9 h10
          simp only [vsL, vsB, vsC, appendWp, Nat.reduceShiftRight, Nat.reduceMod, Nat.reduceLT, Nat.reduceMul, Nat.reduceSub, Int.reduceToNat, Int.reduceNeg, Int.reduceLT, Int.reduceLE, Int.reduceEq, Nat.reduceEqDiff, Nat.reduceAdd, Nat.reduceLeDiff, reduceIte, reduceCtorEq, Nat.reduceBEq, tysA, i64, bV, iD, bD, h4, h5, h9, h10, h11, hLl, Nat.lt_irrefl]
          all_goals first | exact ⟨rfl, rfl⟩ | exact ⟨rfl, trivial⟩ | rfl | trivial | (rw [reV_eq]; rfl)
      · rw [p]
        have hR : rlensOp 3 re.mn re.mx (k0 :: L0) = altR (k0 :: L0) := by simp [rlensOp]
        rw [hR]
        have hpos : (0 : Int) < re.kids.length := by omega
        have hA1 : altR ((k0 :: L0).take 1) = k0 := rfl
        have hs0 : (k0 :: L0)[0]? = some k0 := rfl
        have hne : ∀ j, 1 ≤ j → (k0 :: L0).take j ≠ [] := fun j hj => by cases j with | zero => omega | succ j => simp
        generalize k0 :: L0 = LL at *
        simp only [vsL, vsB, vsC, appendWp, Nat.reduceShiftRight, Nat.reduceMod, Nat.reduceLT, Nat.reduceMul, Nat.reduceSub, Int.reduceToNat, Int.reduceNeg, Int.reduceLT, Int.reduceLE, Int.reduceEq, Nat.reduceEqDiff, Nat.reduceAdd, Nat.reduceLeDiff, reduceIte, reduceCtorEq, Nat.reduceBEq, tysA, i64, bV, hbox, iD, bD, h1, h4, h5, h6, Nat.lt_irrefl, p, hpos, loO, hiO, Nat.zero_add, hs0]
        refine loop_rule (fun n e s => ∃ j : Nat, n = LL.length - j ∧ 1 ≤ j ∧ j ≤ LL.length ∧ e 4 = .so 1 g 0 re.kids.length ∧ e 5 = .so 2 g 0 re.kids.length ∧ e 12 = i64 (altR (LL.take j)).1 ∧ e 13 = i64 (altR (LL.take j)).2 ∧ e 14 = i64 j ∧ s = [boxRe re, loO g LL, hiO g LL])
          ⟨_, _, _, Cln.refl, 1, rfl, Nat.le_refl _, by omega, ?_, ?_, by rw [hA1]; rfl, by rw [hA1]; rfl, rfl, by rw [hbox, p]; rfl⟩ ?_ <;> (try simp only [keepE_app, List.contains_cons, List.contains_nil, Nat.reduceBEq, Bool.or_false, Bool.false_or, Bool.or_true, Bool.true_or, updE, trimE_upd, trimE_trim, trimE_app, Nat.reduceShiftRight, Nat.reduceMod, Nat.reduceEqDiff, if_true, if_false, reduceIte])
        · exact h4
        · exact h5
        clear h1 h4 h5 h6
        rintro n e s ⟨j, rfl, hj1, hj, h4, h5, h9, h10, h11, rfl⟩
        rcases Nat.lt_or_ge j LL.length with hlt | hge
        · obtain ⟨x, hx⟩ : ∃ x, LL[j]? = some x := ⟨_, List.getElem?_eq_getElem hlt⟩
          have hjk : j < re.kids.length := by omega
          simp only [vsL, vsB, vsC, appendWp, Nat.reduceShiftRight, Nat.reduceMod, Nat.reduceLT, Nat.reduceMul, Nat.reduceSub, Int.reduceToNat, Int.reduceNeg, Int.reduceLT, Int.reduceLE, Int.reduceEq, Nat.reduceEqDiff, Nat.reduceAdd, Nat.reduceLeDiff, reduceIte, reduceCtorEq, Nat.reduceBEq, tysA, i64, bV, hbox, iD, bD, h4, h5, h9, h10, h11, hjk, loO, hiO, Nat.zero_add, hx]
          refine call_pure (refGreater_ok _ _) (by simp [refsV, refsV.go, reV_eq, i64, bV, reEl]) (by simp [refsV, refsV.go, reV_eq, i64, bV, reEl]) ?_
          simp only [vsL, vsB, vsC, appendWp, Nat.reduceShiftRight, Nat.reduceMod, Nat.reduceLT, Nat.reduceMul, Nat.reduceSub, Int.reduceToNat, Int.reduceNeg, Int.reduceLT, Int.reduceLE, Int.reduceEq, Nat.reduceEqDiff, Nat.reduceAdd, Nat.reduceLeDiff, reduceIte, reduceCtorEq, Nat.reduceBEq, tysA, i64, bV, hbox, iD, bD, h4, h5, h9, h10, h11]
          refine ⟨LL.length - (j + 1), _, _, by omega, Cln.refl, j + 1, rfl, by omega, hlt, ?_, ?_, ?_, ?_, ?_, rfl⟩ <;> (try simp only [keepE_app, List.contains_cons, List.contains_nil, Nat.reduceBEq, Bool.or_false, Bool.false_or, Bool.or_true, Bool.true_or, updE, trimE_upd, trimE_trim, trimE_app, Nat.reduceShiftRight, Nat.reduceMod, Nat.reduceEqDiff, if_true, if_false, reduceIte])
          · exact h4
          · exact h5
          · rw [take_get hx, altR_snoc (hne j hj1)]; rfl
          · rw [take_get hx, altR_snoc (hne j hj1)]; rfl
          · rw [w64 _ (by omega)]; rfl
        · have hje : j = LL.length := by omega
          subst hje
          rw [List.take_length] at h9 h10
          simp only [vsL, vsB, vsC, appendWp, Nat.reduceShiftRight, Nat.reduceMod, Nat.reduceLT, Nat.reduceMul, Nat.reduceSub, Int.reduceToNat, Int.reduceNeg, Int.reduceLT, Int.reduceLE, Int.reduceEq, Nat.reduceEqDiff, Nat.reduceAdd, Nat.reduceLeDiff, reduceIte, reduceCtorEq, Nat.reduceBEq, tysA, i64, bV, iD, bD, h4, h5, h9, h10, h11, hLl, Nat.lt_irrefl]
          all_goals first | exact ⟨rfl, rfl⟩ | exact ⟨rfl, trivial⟩ | rfl | trivial | (rw [reV_eq]; rfl)
      · rw [p]
        have hR : rlensOp 10 re.mn re.mx (k0 :: L0) = altR (k0 :: L0) := by simp [rlensOp]
        rw [hR]
        have hpos : (0 : Int) < re.kids.length := by omega
        have hA1 : altR ((k0 :: L0).take 1) = k0 := rfl
        have hs0 : (k0 :: L0)[0]? = some k0 := rfl
        have hne : ∀ j, 1 ≤ j → (k0 :: L0).take j ≠ [] := fun j hj => by cases j with | zero => omega | succ j => simp
        generalize k0 :: L0 = LL at *
        simp only [vsL, vsB, vsC, appendWp, Nat.reduceShiftRight, Nat.reduceMod, Nat.reduceLT, Nat.reduceMul, Nat.reduceSub, Int.reduceToNat, Int.reduceNeg, Int.reduceLT, Int.reduceLE, Int.reduceEq, Nat.reduceEqDiff, Nat.reduceAdd, Nat.reduceLeDiff, reduceIte, reduceCtorEq, Nat.reduceBEq, tysA, i64, bV, hbox, iD, bD, h1, h4, h5, h6, Nat.lt_irrefl, p, hpos, loO, hiO, Nat.zero_add, hs0]
        refine loop_rule (fun n e s => ∃ j : Nat, n = LL.length - j ∧ 1 ≤ j ∧ j ≤ LL.length ∧ e 4 = .so 1 g 0 re.kids.length ∧ e 5 = .so 2 g 0 re.kids.length ∧ e 12 = i64 (altR (LL.take j)).1 ∧ e 13 = i64 (altR (LL.take j)).2 ∧ e 14 = i64 j ∧ s = [boxRe re, loO g LL, hiO g LL])
          ⟨_, _, _, Cln.refl, 1, rfl, Nat.le_refl _, by omega, ?_, ?_, by rw [hA1]; rfl, by rw [hA1]; rfl, rfl, by rw [hbox, p]; rfl⟩ ?_ <;> (try simp only [keepE_app, List.contains_cons, List.contains_nil, Nat.reduceBEq, Bool.or_false, Bool.false_or, Bool.or_true, Bool.true_or, updE, trimE_upd, trimE_trim, trimE_app, Nat.reduceShiftRight, Nat.reduceMod, Nat.reduceEqDiff, if_true, if_false, reduceIte])
        · exact h4
        · exact h5
        clear h1 h4 h5 h6
        rintro n e s ⟨j, rfl, hj1, hj, h4, h5, h9, h10, h11, rfl⟩
        rcases Nat.lt_or_ge j LL.length with hlt | hge
        · obtain ⟨x, hx⟩ : ∃ x, LL[j]? = some x := ⟨_, List.getElem?_eq_getElem hlt⟩
          have hjk : j < re.kids.length := by omega
          simp only [vsL, vsB, vsC, appendWp, Nat.reduceShiftRight, Nat.reduceMod, Nat.reduceLT, Nat.reduceMul, Nat.reduceSub, Int.reduceToNat, Int.reduceNeg, Int.reduceLT, Int.reduceLE, Int.reduceEq, Nat.reduceEqDiff, Nat.reduceAdd, Nat.reduceLeDiff, reduceIte, reduceCtorEq, Nat.reduceBEq, tysA, i64, bV, hbox, iD, bD, h4, h5, h9, h10, h11, hjk, loO, hiO, Nat.zero_add, hx]
          refine call_pure (refGreater_ok _ _) (by simp [refsV, refsV.go, reV_eq, i64, bV, reEl]) (by simp [refsV, refsV.go, reV_eq, i64, bV, reEl]) ?_
          simp only [vsL, vsB, vsC, appendWp, Nat.reduceShiftRight, Nat.reduceMod, Nat.reduceLT, Nat.reduceMul, Nat.reduceSub, Int.reduceToNat, Int.reduceNeg, Int.reduceLT, Int.reduceLE, Int.reduceEq, Nat.reduceEqDiff, Nat.reduceAdd, Nat.reduceLeDiff, reduceIte, reduceCtorEq, Nat.reduceBEq, tysA, i64, bV, hbox, iD, bD, h4, h5, h9, h10, h11]
          refine ⟨LL.length - (j + 1), _, _, by omega, Cln.refl, j + 1, rfl, by omega, hlt, ?_, ?_, ?_, ?_, ?_, rfl⟩ <;> (try simp only [keepE_app, List.contains_cons, List.contains_nil, Nat.reduceBEq, Bool.or_false, Bool.false_or, Bool.or_true, Bool.true_or, updE, trimE_upd, trimE_trim, trimE_app, Nat.reduceShiftRight, Nat.reduceMod, Nat.reduceEqDiff, if_true, if_false, reduceIte])
          · exact h4
          · exact h5
          · rw [take_get hx, altR_snoc (hne j hj1)]; rfl
          · rw [take_get hx, altR_snoc (hne j hj1)]; rfl
          · rw [w64 _ (by omega)]; rfl
        · have hje : j = LL.length := by omega
          subst hje
          rw [List.take_length] at h9 h10
          simp only [vsL, vsB, vsC, appendWp, Nat.reduceShiftRight, Nat.reduceMod, Nat.reduceLT, Nat.reduceMul, Nat.reduceSub, Int.reduceToNat, Int.reduceNeg, Int.reduceLT, Int.reduceLE, Int.reduceEq, Nat.reduceEqDiff, Nat.reduceAdd, Nat.reduceLeDiff, reduceIte, reduceCtorEq, Nat.reduceBEq, tysA, i64, bV, iD, bD, h4, h5, h9, h10, h11, hLl, Nat.lt_irrefl]
          all_goals first | exact ⟨rfl, rfl⟩ | exact ⟨rfl, trivial⟩ | rfl | trivial | (rw [reV_eq]; rfl)
      · rw [p]
        have hpos : (0 : Int) < re.kids.length := by omega
        simp only [vsL, vsB, vsC, appendWp, Nat.reduceShiftRight, Nat.reduceMod, Nat.reduceLT, Nat.reduceMul, Nat.reduceSub, Int.reduceToNat, Int.reduceNeg, Int.reduceLT, Int.reduceLE, Int.reduceEq, Nat.reduceEqDiff, Nat.reduceAdd, Nat.reduceLeDiff, reduceIte, reduceCtorEq, Nat.reduceBEq, tysA, i64, bV, hbox, iD, bD, h1, h4, h5, h6, Nat.lt_irrefl, p]
        refine draw_c mix [] [] (by rfl) ?_
        simp only [vsL, vsB, vsC, appendWp, Nat.reduceShiftRight, Nat.reduceMod, Nat.reduceLT, Nat.reduceMul, Nat.reduceSub, Int.reduceToNat, Int.reduceNeg, Int.reduceLT, Int.reduceLE, Int.reduceEq, Nat.reduceEqDiff, Nat.reduceAdd, Nat.reduceLeDiff, reduceIte, reduceCtorEq, Nat.reduceBEq, tysA, i64, bV, hbox, iD, bD, h1, h4, h5, h6, p, hpos, loO, hiO, Nat.zero_add, List.map_cons]
        refine callC_pure (refTimes_ok _ _) (by simp [refsV, refsV.go, reV_eq, i64, bV, reEl]) (by simp [refsV, refsV.go, reV_eq, i64, bV, reEl]) ?_
        simp only [vsL, vsB, vsC, appendWp, Nat.reduceShiftRight, Nat.reduceMod, Nat.reduceLT, Nat.reduceMul, Nat.reduceSub, Int.reduceToNat, Int.reduceNeg, Int.reduceLT, Int.reduceLE, Int.reduceEq, Nat.reduceEqDiff, Nat.reduceAdd, Nat.reduceLeDiff, reduceIte, reduceCtorEq, Nat.reduceBEq, tysA, i64, bV, hbox, iD, bD, h1, h4, h5, h6, p, hpos, loO, hiO, Nat.zero_add, List.map_cons]
        refine callC_pure (refTimes_ok _ _) (by simp [refsV, refsV.go, reV_eq, i64, bV, reEl]) (by simp [refsV, refsV.go, reV_eq, i64, bV, reEl]) ?_
        simp only [vsL, vsB, vsC, appendWp, Nat.reduceShiftRight, Nat.reduceMod, Nat.reduceLT, Nat.reduceMul, Nat.reduceSub, Int.reduceToNat, Int.reduceNeg, Int.reduceLT, Int.reduceLE, Int.reduceEq, Nat.reduceEqDiff, Nat.reduceAdd, Nat.reduceLeDiff, reduceIte, reduceCtorEq, Nat.reduceBEq, tysA, i64, bV, hbox, iD, bD, h1, h4, h5, h6, p, hpos]
        all_goals first | exact ⟨rfl, rfl⟩ | exact ⟨rfl, trivial⟩ | rfl | trivial | (rw [reV_eq]; rfl)
      · rw [p]
        have hpos : (0 : Int) < re.kids.length := by omega
        simp only [vsL, vsB, vsC, appendWp, Nat.reduceShiftRight, Nat.reduceMod, Nat.reduceLT, Nat.reduceMul, Nat.reduceSub, Int.reduceToNat, Int.reduceNeg, Int.reduceLT, Int.reduceLE, Int.reduceEq, Nat.reduceEqDiff, Nat.reduceAdd, Nat.reduceLeDiff, reduceIte, reduceCtorEq, Nat.reduceBEq, tysA, i64, bV, hbox, iD, bD, h1, h4, h5, h6, Nat.lt_irrefl, p]
        refine draw_c mix [] [] (by rfl) ?_
        simp only [vsL, vsB, vsC, appendWp, Nat.reduceShiftRight, Nat.reduceMod, Nat.reduceLT, Nat.reduceMul, Nat.reduceSub, Int.reduceToNat, Int.reduceNeg, Int.reduceLT, Int.reduceLE, Int.reduceEq, Nat.reduceEqDiff, Nat.reduceAdd, Nat.reduceLeDiff, reduceIte, reduceCtorEq, Nat.reduceBEq, tysA, i64, bV, hbox, iD, bD, h1, h4, h5, h6, p, hpos, loO, hiO, Nat.zero_add, List.map_cons]
        all_goals first | exact ⟨rfl, rfl⟩ | exact ⟨rfl, trivial⟩ | rfl | trivial | (rw [reV_eq]; rfl)
      · rw [p]
        have hpos : (0 : Int) < re.kids.length := by omega
        simp only [vsL, vsB, vsC, appendWp, Nat.reduceShiftRight, Nat.reduceMod, Nat.reduceLT, Nat.reduceMul, Nat.reduceSub, Int.reduceToNat, Int.reduceNeg, Int.reduceLT, Int.reduceLE, Int.reduceEq, Nat.reduceEqDiff, Nat.reduceAdd, Nat.reduceLeDiff, reduceIte, reduceCtorEq, Nat.reduceBEq, tysA, i64, bV, hbox, iD, bD, h1, h4, h5, h6, Nat.lt_irrefl, p]
        refine draw_c mix [] [] (by rfl) ?_
        simp only [vsL, vsB, vsC, appendWp, Nat.reduceShiftRight, Nat.reduceMod, Nat.reduceLT, Nat.reduceMul, Nat.reduceSub, Int.reduceToNat, Int.reduceNeg, Int.reduceLT, Int.reduceLE, Int.reduceEq, Nat.reduceEqDiff, Nat.reduceAdd, Nat.reduceLeDiff, reduceIte, reduceCtorEq, Nat.reduceBEq, tysA, i64, bV, hbox, iD, bD, h1, h4, h5, h6, p, hpos, loO, hiO, Nat.zero_add, List.map_cons]
        all_goals first | exact ⟨rfl, rfl⟩ | exact ⟨rfl, trivial⟩ | rfl | trivial | (rw [reV_eq]; rfl)
      · rw [show rlensOp re.op re.mn re.mx (k0 :: L0) = (0, 0) by simp [rlensOp, p1, p2, p3, p4, p5, p6, p7, p8]]
        simp only [vsL, vsB, vsC, appendWp, Nat.reduceShiftRight, Nat.reduceMod, Nat.reduceLT, Nat.reduceMul, Nat.reduceSub, Int.reduceToNat, Int.reduceNeg, Int.reduceLT, Int.reduceLE, Int.reduceEq, Nat.reduceEqDiff, Nat.reduceAdd, Nat.reduceLeDiff, reduceIte, reduceCtorEq, Nat.reduceBEq, tysA, i64, bV, hbox, iD, bD, h1, h4, h5, h6, Nat.lt_irrefl, p1, p2, p3, p4, p5, p6, p7, p8]
        all_goals first | exact ⟨rfl, rfl⟩ | exact ⟨rfl, trivial⟩ | rfl | trivial | (rw [reV_eq]; rfl)

end Go.Proofs.Ytafbdphblilenaa
