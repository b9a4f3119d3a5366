/- Part of the proof: the program logic, or what some functions compute (F19). -/
import Derived.Test.YtafbdphblilenaaE4
set_option linter.unusedSimpArgs false
set_option linter.unusedVariables false
set_option linter.unusedSimpArgs false
set_option linter.unusedVariables false
namespace Go.Proofs.Ytafbdphblilenaa
open Go.VL

/-- Whether a node can be unrolled. -/
def exaNode (op mx mn mode : Int) (kids : List Re) (nul : List Bool) : Bool :=
  !(decide (op = 4) && (!decide (kids.length = 1) || decide (mode = 2) || (!(decide (mn = 0) && (decide (mx = -1) || decide (mx = 1))) && nul.headD false)))

mutual
def Re.exa : Re → Bool
  | .mk op _ kids mn mx mode _ _ => exaNode op mx mn mode kids (Re.anulL kids) && Re.exaL kids
def Re.exaL : List Re → Bool
  | [] => true
  | k :: l => k.exa && Re.exaL l
end

theorem Re.exaL_all : ∀ l : List Re, Re.exaL l = l.all Re.exa
  | [] => rfl
  | k :: l => by simp [Re.exaL, Re.exaL_all l]

theorem Re.exa_eq (re : Re) : re.exa = (exaNode re.op re.mx re.mn re.mode re.kids (re.kids.map Re.anul) && re.kids.all Re.exa) := by
  cases re; simp [Re.exa, Re.exaL_all, Re.anulL_eq, Re.op, Re.mn, Re.mx, Re.mode, Re.kids]

set_option maxRecDepth 100000 in
set_option maxHeartbeats 8000000 in
theorem expandable_ok (re : Re) (hs : re.fine = true) : PureOK Try.prog 59 [reEl re] (bV re.exa) := by
  revert hs
  refine Re.ind (Q := fun re => re.fine = true → PureOK Try.prog 59 [reEl re] (bV re.exa)) (fun re ih hs => ?_) re
  obtain ⟨hset1, hlen, hfk⟩ := Re.fine_spec hs
  have hkc := kept_ok re
  rw [reEl, Re.cells_eq re] at hkc
  simp only [iD, bD, bV] at hkc
  refine fn_ok Try.func59 rfl Try.ntmps59 Try.results59 rfl 0 3298534883341 (by simp) (by simp) ?_
  by_cases o4 : re.op = 4
  · by_cases hl : re.kids.length = 1
    · have hl' : (re.kids.length : Int) = 1 := by omega
      have hl0 : (0 : Int) < 1 := by omega
      obtain ⟨k, hk1⟩ : ∃ k, re.kids = [k] := List.length_eq_one_iff.1 hl
      have hk0 : re.kids[0]? = some k := by rw [hk1]; rfl
      have hmk : k ∈ re.kids := by rw [hk1]; simp
      have hkf := hfk k hmk
      by_cases hmode : re.mode = 2
      · rw [show re.exa = false by rw [Re.exa_eq]; simp [exaNode, o4, hmode]]
        simp only [vsA, vsB, vsC, appendWp, Nat.reduceShiftRight, Nat.reduceMod, Nat.reduceLT, Nat.reduceMul, Nat.reduceSub, Int.reduceToNat, Int.reduceNeg, Int.reduceLT, Int.reduceLE, Int.reduceEq, Nat.reduceEqDiff, Nat.reduceAdd, Nat.reduceLeDiff, reduceIte, reduceCtorEq, Nat.reduceBEq, tysA, i64, reEl, Re.cells_eq re, iD, bD, bV, o4, hl', hmode]
        all_goals first | exact ⟨rfl, rfl⟩ | exact ⟨rfl, trivial⟩ | rfl | trivial | (rw [reV_eq]; rfl)
      · simp only [vsA, vsB, vsC, appendWp, Nat.reduceShiftRight, Nat.reduceMod, Nat.reduceLT, Nat.reduceMul, Nat.reduceSub, Int.reduceToNat, Int.reduceNeg, Int.reduceLT, Int.reduceLE, Int.reduceEq, Nat.reduceEqDiff, Nat.reduceAdd, Nat.reduceLeDiff, reduceIte, reduceCtorEq, Nat.reduceBEq, tysA, i64, reEl, Re.cells_eq re, iD, bD, bV, o4, hl', hmode]
        refine call_pure (o4 ▸ hkc) (by simp [refsV, refsV.go, reV_eq, i64, bV, reEl]) (by simp [refsV, refsV.go, reV_eq, i64, bV, reEl]) ?_
        cases hkp : re.kept with
        | true =>
          have hnode : exaNode re.op re.mx re.mn re.mode re.kids (re.kids.map Re.anul) = true := by
            have hkp' : (decide (re.mn = 0) && (decide (re.mx = -1) || decide (re.mx = 1))) = true := hkp
            simp only [exaNode, hkp']; simp [hl, hmode]
          simp only [vsA, vsB, vsC, appendWp, Nat.reduceShiftRight, Nat.reduceMod, Nat.reduceLT, Nat.reduceMul, Nat.reduceSub, Int.reduceToNat, Int.reduceNeg, Int.reduceLT, Int.reduceLE, Int.reduceEq, Nat.reduceEqDiff, Nat.reduceAdd, Nat.reduceLeDiff, reduceIte, reduceCtorEq, Nat.reduceBEq, tysA, i64, reEl, Re.cells_eq re, iD, bD, bV, o4, hl', hmode, hkp]
          refine loop_rule (fun n e s => ∃ i : Nat, n = re.kids.length - i ∧ i ≤ re.kids.length ∧ e 0 = reEl re ∧ (∀ x ∈ re.kids.take i, x.exa = true) ∧ e 40 = i64 re.kids.length ∧ e 41 = i64 i ∧ s = [])
            ⟨_, _, _, Cln.refl, 0, rfl, by omega, by simp [reEl, Re.cells_eq re, iD, bD, o4]; rfl, by simp, by first | rfl | (simp only [i64, hl']; rfl), rfl, rfl⟩ ?_
          rintro n e s ⟨i, rfl, hi, h0, hall, h40, h41, rfl⟩
          rcases Nat.lt_or_ge i re.kids.length with hlt | hge
          · obtain ⟨k, hk⟩ : ∃ k, re.kids[i]? = some k := ⟨_, List.getElem?_eq_getElem hlt⟩
            have hm := List.mem_of_getElem? hk
            have hks := hfk k hm
            simp only [vsA, vsB, vsC, appendWp, Nat.reduceShiftRight, Nat.reduceMod, Nat.reduceLT, Nat.reduceMul, Nat.reduceSub, Int.reduceToNat, Int.reduceNeg, Int.reduceLT, Int.reduceLE, Int.reduceEq, Nat.reduceEqDiff, Nat.reduceAdd, Nat.reduceLeDiff, reduceIte, reduceCtorEq, Nat.reduceBEq, tysA, i64, reEl, Re.cells_eq re, iD, bD, bV, h0, h40, h41, hlt, hk]
            refine call_pure (ih k hm hks) (by simp [refsV, refsV.go, reV_eq, i64, bV, reEl]) (by simp [refsV, refsV.go, reV_eq, i64, bV, reEl]) ?_
            cases hkn : k.exa with
            | true =>
              simp only [vsA, vsB, vsC, appendWp, Nat.reduceShiftRight, Nat.reduceMod, Nat.reduceLT, Nat.reduceMul, Nat.reduceSub, Int.reduceToNat, Int.reduceNeg, Int.reduceLT, Int.reduceLE, Int.reduceEq, Nat.reduceEqDiff, Nat.reduceAdd, Nat.reduceLeDiff, reduceIte, reduceCtorEq, Nat.reduceBEq, tysA, i64, reEl, Re.cells_eq re, iD, bD, bV, h0, h40, h41, hkn]
              refine ⟨re.kids.length - (i + 1), _, _, by omega, Cln.refl, i + 1, rfl, hlt, ?_, ?_, ?_, ?_, rfl⟩ <;> (try simp only [keepE_app, List.contains_cons, List.contains_nil, Nat.reduceBEq, Bool.or_false, Bool.false_or, Bool.or_true, Bool.true_or, updE, trimE_upd, trimE_trim, trimE_app, Nat.reduceShiftRight, Nat.reduceMod, Nat.reduceEqDiff, if_true, if_false, reduceIte])
              · simpa [reEl, Re.cells_eq re, iD, bD, o4] using h0
              · intro x hx
                rw [take_get hk] at hx
                rcases List.mem_append.1 hx with hx | hx
                · exact hall x hx
                · rw [List.mem_singleton.1 hx]; exact hkn
              · exact h40
              · rw [w64 _ (by omega)]; rfl
            | false =>
              simp only [vsA, vsB, vsC, appendWp, Nat.reduceShiftRight, Nat.reduceMod, Nat.reduceLT, Nat.reduceMul, Nat.reduceSub, Int.reduceToNat, Int.reduceNeg, Int.reduceLT, Int.reduceLE, Int.reduceEq, Nat.reduceEqDiff, Nat.reduceAdd, Nat.reduceLeDiff, reduceIte, reduceCtorEq, Nat.reduceBEq, tysA, i64, reEl, Re.cells_eq re, iD, bD, bV, h0, h40, h41, hkn]
              have : re.kids.all Re.exa = false := by rw [List.all_eq_false]; exact ⟨k, hm, by simp [hkn]⟩
              rw [Re.exa_eq, this, Bool.and_false]
          · have hie : i = re.kids.length := by omega
            subst hie
            rw [List.take_length] at hall
            have : re.kids.all Re.exa = true := by rw [List.all_eq_true]; exact hall
            rw [Re.exa_eq, this, hnode, Bool.and_self]
            simp only [vsA, vsB, vsC, appendWp, Nat.reduceShiftRight, Nat.reduceMod, Nat.reduceLT, Nat.reduceMul, Nat.reduceSub, Int.reduceToNat, Int.reduceNeg, Int.reduceLT, Int.reduceLE, Int.reduceEq, Nat.reduceEqDiff, Nat.reduceAdd, Nat.reduceLeDiff, reduceIte, reduceCtorEq, Nat.reduceBEq, tysA, i64, reEl, Re.cells_eq re, iD, bD, bV, h0, h40, h41, Nat.lt_irrefl]
            all_goals first | exact ⟨rfl, rfl⟩ | exact ⟨rfl, trivial⟩ | rfl | trivial | (rw [reV_eq]; rfl)
        | false =>
          have hkp' : (decide (re.mn = 0) && (decide (re.mx = -1) || decide (re.mx = 1))) = false := hkp
          simp only [vsA, vsB, vsC, appendWp, Nat.reduceShiftRight, Nat.reduceMod, Nat.reduceLT, Nat.reduceMul, Nat.reduceSub, Int.reduceToNat, Int.reduceNeg, Int.reduceLT, Int.reduceLE, Int.reduceEq, Nat.reduceEqDiff, Nat.reduceAdd, Nat.reduceLeDiff, reduceIte, reduceCtorEq, Nat.reduceBEq, tysA, i64, reEl, Re.cells_eq re, iD, bD, bV, o4, hl', hl0, hk0, hmode, hkp]
          refine call_pure (nullable_ok k hkf) (by simp [refsV, refsV.go, reV_eq, i64, bV, reEl]) (by simp [refsV, refsV.go, reV_eq, i64, bV, reEl]) ?_
          cases hkn : k.anul with
          | true =>
            rw [show re.exa = false by rw [Re.exa_eq]; simp only [exaNode, hkp']; simp [o4, hk1, hkn]]
            simp only [vsA, vsB, vsC, appendWp, Nat.reduceShiftRight, Nat.reduceMod, Nat.reduceLT, Nat.reduceMul, Nat.reduceSub, Int.reduceToNat, Int.reduceNeg, Int.reduceLT, Int.reduceLE, Int.reduceEq, Nat.reduceEqDiff, Nat.reduceAdd, Nat.reduceLeDiff, reduceIte, reduceCtorEq, Nat.reduceBEq, tysA, i64, reEl, Re.cells_eq re, iD, bD, bV, o4, hkn]
            all_goals first | exact ⟨rfl, rfl⟩ | exact ⟨rfl, trivial⟩ | rfl | trivial | (rw [reV_eq]; rfl)
          | false =>
            have hnode : exaNode re.op re.mx re.mn re.mode re.kids (re.kids.map Re.anul) = true := by
              simp only [exaNode, hkp']; simp [hk1, hmode, hkn]
            simp only [vsA, vsB, vsC, appendWp, Nat.reduceShiftRight, Nat.reduceMod, Nat.reduceLT, Nat.reduceMul, Nat.reduceSub, Int.reduceToNat, Int.reduceNeg, Int.reduceLT, Int.reduceLE, Int.reduceEq, Nat.reduceEqDiff, Nat.reduceAdd, Nat.reduceLeDiff, reduceIte, reduceCtorEq, Nat.reduceBEq, tysA, i64, reEl, Re.cells_eq re, iD, bD, bV, o4, hl', hkn]
            refine loop_rule (fun n e s => ∃ i : Nat, n = re.kids.length - i ∧ i ≤ re.kids.length ∧ e 0 = reEl re ∧ (∀ x ∈ re.kids.take i, x.exa = true) ∧ e 40 = i64 re.kids.length ∧ e 41 = i64 i ∧ s = [])
              ⟨_, _, _, Cln.refl, 0, rfl, by omega, by simp [reEl, Re.cells_eq re, iD, bD, o4]; rfl, by simp, by first | rfl | (simp only [i64, hl']; rfl), rfl, rfl⟩ ?_
            rintro n e s ⟨i, rfl, hi, h0, hall, h40, h41, rfl⟩
            rcases Nat.lt_or_ge i re.kids.length with hlt | hge
            · obtain ⟨k, hk⟩ : ∃ k, re.kids[i]? = some k := ⟨_, List.getElem?_eq_getElem hlt⟩
              have hm := List.mem_of_getElem? hk
              have hks := hfk k hm
              simp only [vsA, vsB, vsC, appendWp, Nat.reduceShiftRight, Nat.reduceMod, Nat.reduceLT, Nat.reduceMul, Nat.reduceSub, Int.reduceToNat, Int.reduceNeg, Int.reduceLT, Int.reduceLE, Int.reduceEq, Nat.reduceEqDiff, Nat.reduceAdd, Nat.reduceLeDiff, reduceIte, reduceCtorEq, Nat.reduceBEq, tysA, i64, reEl, Re.cells_eq re, iD, bD, bV, h0, h40, h41, hlt, hk]
              refine call_pure (ih k hm hks) (by simp [refsV, refsV.go, reV_eq, i64, bV, reEl]) (by simp [refsV, refsV.go, reV_eq, i64, bV, reEl]) ?_
              cases hkn : k.exa with
              | true =>
                simp only [vsA, vsB, vsC, appendWp, Nat.reduceShiftRight, Nat.reduceMod, Nat.reduceLT, Nat.reduceMul, Nat.reduceSub, Int.reduceToNat, Int.reduceNeg, Int.reduceLT, Int.reduceLE, Int.reduceEq, Nat.reduceEqDiff, Nat.reduceAdd, Nat.reduceLeDiff, reduceIte, reduceCtorEq, Nat.reduceBEq, tysA, i64, reEl, Re.cells_eq re, iD, bD, bV, h0, h40, h41, hkn]
                refine ⟨re.kids.length - (i + 1), _, _, by omega, Cln.refl, i + 1, rfl, hlt, ?_, ?_, ?_, ?_, rfl⟩ <;> (try simp only [keepE_app, List.contains_cons, List.contains_nil, Nat.reduceBEq, Bool.or_false, Bool.false_or, Bool.or_true, Bool.true_or, updE, trimE_upd, trimE_trim, trimE_app, Nat.reduceShiftRight, Nat.reduceMod, Nat.reduceEqDiff, if_true, if_false, reduceIte])
                · simpa [reEl, Re.cells_eq re, iD, bD, o4] using h0
                · intro x hx
                  rw [take_get hk] at hx
                  rcases List.mem_append.1 hx with hx | hx
                  · exact hall x hx
                  · rw [List.mem_singleton.1 hx]; exact hkn
                · exact h40
                · rw [w64 _ (by omega)]; rfl
              | false =>
                simp only [vsA, vsB, vsC, appendWp, Nat.reduceShiftRight, Nat.reduceMod, Nat.reduceLT, Nat.reduceMul, Nat.reduceSub, Int.reduceToNat, Int.reduceNeg, Int.reduceLT, Int.reduceLE, Int.reduceEq, Nat.reduceEqDiff, Nat.reduceAdd, Nat.reduceLeDiff, reduceIte, reduceCtorEq, Nat.reduceBEq, tysA, i64, reEl, Re.cells_eq re, iD, bD, bV, h0, h40, h41, hkn]
                have : re.kids.all Re.exa = false := by rw [List.all_eq_false]; exact ⟨k, hm, by simp [hkn]⟩
                rw [Re.exa_eq, this, Bool.and_false]
            · have hie : i = re.kids.length := by omega
              subst hie
              rw [List.take_length] at hall
              have : re.kids.all Re.exa = true := by rw [List.all_eq_true]; exact hall
              rw [Re.exa_eq, this, hnode, Bool.and_self]
              simp only [vsA, vsB, vsC, appendWp, Nat.reduceShiftRight, Nat.reduceMod, Nat.reduceLT, Nat.reduceMul, Nat.reduceSub, Int.reduceToNat, Int.reduceNeg, Int.reduceLT, Int.reduceLE, Int.reduceEq, Nat.reduceEqDiff, Nat.reduceAdd, Nat.reduceLeDiff, reduceIte, reduceCtorEq, Nat.reduceBEq, tysA, i64, reEl, Re.cells_eq re, iD, bD, bV, h0, h40, h41, Nat.lt_irrefl]
              all_goals first | exact ⟨rfl, rfl⟩ | exact ⟨rfl, trivial⟩ | rfl | trivial | (rw [reV_eq]; rfl)
    · have hl' : ¬ (re.kids.length : Int) = 1 := by omega
      rw [show re.exa = false by rw [Re.exa_eq]; simp [exaNode, o4, hl]]
      simp only [vsA, vsB, vsC, appendWp, Nat.reduceShiftRight, Nat.reduceMod, Nat.reduceLT, Nat.reduceMul, Nat.reduceSub, Int.reduceToNat, Int.reduceNeg, Int.reduceLT, Int.reduceLE, Int.reduceEq, Nat.reduceEqDiff, Nat.reduceAdd, Nat.reduceLeDiff, reduceIte, reduceCtorEq, Nat.reduceBEq, tysA, i64, reEl, Re.cells_eq re, iD, bD, bV, o4, hl']
      all_goals first | exact ⟨rfl, rfl⟩ | exact ⟨rfl, trivial⟩ | rfl | trivial | (rw [reV_eq]; rfl)
  · have hnode : exaNode re.op re.mx re.mn re.mode re.kids (re.kids.map Re.anul) = true := by simp [exaNode, o4]
    simp only [vsA, vsB, vsC, appendWp, Nat.reduceShiftRight, Nat.reduceMod, Nat.reduceLT, Nat.reduceMul, Nat.reduceSub, Int.reduceToNat, Int.reduceNeg, Int.reduceLT, Int.reduceLE, Int.reduceEq, Nat.reduceEqDiff, Nat.reduceAdd, Nat.reduceLeDiff, reduceIte, reduceCtorEq, Nat.reduceBEq, tysA, i64, reEl, Re.cells_eq re, iD, bD, bV, o4]
    refine loop_rule (fun n e s => ∃ i : Nat, n = re.kids.length - i ∧ i ≤ re.kids.length ∧ e 0 = reEl re ∧ (∀ x ∈ re.kids.take i, x.exa = true) ∧ e 40 = i64 re.kids.length ∧ e 41 = i64 i ∧ s = [])
      ⟨_, _, _, Cln.refl, 0, rfl, by omega, by simp [reEl, Re.cells_eq re, iD, bD, o4]; rfl, by simp, by first | rfl | (simp only [i64, hl']; rfl), rfl, rfl⟩ ?_
    rintro n e s ⟨i, rfl, hi, h0, hall, h40, h41, rfl⟩
    rcases Nat.lt_or_ge i re.kids.length with hlt | hge
    · obtain ⟨k, hk⟩ : ∃ k, re.kids[i]? = some k := ⟨_, List.getElem?_eq_getElem hlt⟩
      have hm := List.mem_of_getElem? hk
      have hks := hfk k hm
      simp only [vsA, vsB, vsC, appendWp, Nat.reduceShiftRight, Nat.reduceMod, Nat.reduceLT, Nat.reduceMul, Nat.reduceSub, Int.reduceToNat, Int.reduceNeg, Int.reduceLT, Int.reduceLE, Int.reduceEq, Nat.reduceEqDiff, Nat.reduceAdd, Nat.reduceLeDiff, reduceIte, reduceCtorEq, Nat.reduceBEq, tysA, i64, reEl, Re.cells_eq re, iD, bD, bV, h0, h40, h41, hlt, hk]
      refine call_pure (ih k hm hks) (by simp [refsV, refsV.go, reV_eq, i64, bV, reEl]) (by simp [refsV, refsV.go, reV_eq, i64, bV, reEl]) ?_
      cases hkn : k.exa with
      | true =>
        simp only [vsA, vsB, vsC, appendWp, Nat.reduceShiftRight, Nat.reduceMod, Nat.reduceLT, Nat.reduceMul, Nat.reduceSub, Int.reduceToNat, Int.reduceNeg, Int.reduceLT, Int.reduceLE, Int.reduceEq, Nat.reduceEqDiff, Nat.reduceAdd, Nat.reduceLeDiff, reduceIte, reduceCtorEq, Nat.reduceBEq, tysA, i64, reEl, Re.cells_eq re, iD, bD, bV, h0, h40, h41, hkn]
        refine ⟨re.kids.length - (i + 1), _, _, by omega, Cln.refl, i + 1, rfl, hlt, ?_, ?_, ?_, ?_, rfl⟩ <;> (try simp only [keepE_app, List.contains_cons, List.contains_nil, Nat.reduceBEq, Bool.or_false, Bool.false_or, Bool.or_true, Bool.true_or, updE, trimE_upd, trimE_trim, trimE_app, Nat.reduceShiftRight, Nat.reduceMod, Nat.reduceEqDiff, if_true, if_false, reduceIte])
        · simpa [reEl, Re.cells_eq re, iD, bD, o4] using h0
        · intro x hx
          rw [take_get hk] at hx
          rcases List.mem_append.1 hx with hx | hx
          · exact hall x hx
          · rw [List.mem_singleton.1 hx]; exact hkn
        · exact h40
        · rw [w64 _ (by omega)]; rfl
      | false =>
        simp only [vsA, vsB, vsC, appendWp, Nat.reduceShiftRight, Nat.reduceMod, Nat.reduceLT, Nat.reduceMul, Nat.reduceSub, Int.reduceToNat, Int.reduceNeg, Int.reduceLT, Int.reduceLE, Int.reduceEq, Nat.reduceEqDiff, Nat.reduceAdd, Nat.reduceLeDiff, reduceIte, reduceCtorEq, Nat.reduceBEq, tysA, i64, reEl, Re.cells_eq re, iD, bD, bV, h0, h40, h41, hkn]
        have : re.kids.all Re.exa = false := by rw [List.all_eq_false]; exact ⟨k, hm, by simp [hkn]⟩
        rw [Re.exa_eq, this, Bool.and_false]
    · have hie : i = re.kids.length := by omega
      subst hie
      rw [List.take_length] at hall
      have : re.kids.all Re.exa = true := by rw [List.all_eq_true]; exact hall
      rw [Re.exa_eq, this, hnode, Bool.and_self]
      simp only [vsA, vsB, vsC, appendWp, Nat.reduceShiftRight, Nat.reduceMod, Nat.reduceLT, Nat.reduceMul, Nat.reduceSub, Int.reduceToNat, Int.reduceNeg, Int.reduceLT, Int.reduceLE, Int.reduceEq, Nat.reduceEqDiff, Nat.reduceAdd, Nat.reduceLeDiff, reduceIte, reduceCtorEq, Nat.reduceBEq, tysA, i64, reEl, Re.cells_eq re, iD, bD, bV, h0, h40, h41, Nat.lt_irrefl]
      all_goals first | exact ⟨rfl, rfl⟩ | exact ⟨rfl, trivial⟩ | rfl | trivial | (rw [reV_eq]; rfl)

/-! ### The size of what Expand returns -/

def kidSum (l : List Int) : Int := l.foldl (fun a k => min (IntKind.i64.wrap (a + k)) 4097) 0

theorem kidSum_snoc (l : List Int) (k : Int) : kidSum (l ++ [k]) = min (IntKind.i64.wrap (kidSum l + k)) 4097 := by simp [kidSum, List.foldl_append]

def eszNode (op mn mx kid : Int) : Int :=
  if ¬ op = 4 ∨ (decide (mn = 0) && (decide (mx = -1) || decide (mx = 1))) = true then min (IntKind.i64.wrap (1 + kid)) 4097
  else
    let least := min (max mn 0) 4097
    let sum := IntKind.i64.wrap (least * kid)
    let more := min (IntKind.i64.wrap (mx - mn)) 4097
    let ps : Int × Int :=
      if mx = -1 then (IntKind.i64.wrap (least + 1), IntKind.i64.wrap (IntKind.i64.wrap (sum + 1) + kid))
      else if 0 < more then (IntKind.i64.wrap (least + 1), IntKind.i64.wrap (IntKind.i64.wrap (IntKind.i64.wrap (sum + 1) + kid) + IntKind.i64.wrap (IntKind.i64.wrap (more - 1) * IntKind.i64.wrap (2 + kid))))
      else (least, sum)
    min (if 1 < ps.1 then IntKind.i64.wrap (ps.2 + 1) else ps.2) 4097

mutual
def Re.esz : Re → Int
  | .mk op _ kids mn mx _ _ _ => eszNode op mn mx (kidSum (Re.eszL kids))
def Re.eszL : List Re → List Int
  | [] => []
  | k :: l => k.esz :: Re.eszL l
end

theorem Re.eszL_eq : ∀ l : List Re, Re.eszL l = l.map Re.esz
  | [] => by simp [Re.eszL]
  | k :: l => by simp [Re.eszL, Re.eszL_eq l]

theorem Re.esz_eq (re : Re) : re.esz = eszNode re.op re.mn re.mx (kidSum (re.kids.map Re.esz)) := by
  cases re; simp [Re.esz, Re.eszL_eq, Re.op, Re.mn, Re.mx, Re.kids]

set_option maxRecDepth 100000 in
set_option maxHeartbeats 8000000 in
theorem expandedSize_ok (re : Re) (hs : re.fine = true) : PureOK Try.prog 60 [reEl re] (i64 re.esz) := by
  revert hs
  refine Re.ind (Q := fun re => re.fine = true → PureOK Try.prog 60 [reEl re] (i64 re.esz)) (fun re ih hs => ?_) re
  obtain ⟨hset1, hlen, hfk⟩ := Re.fine_spec hs
  have hkc := kept_ok re
  rw [reEl, Re.cells_eq re] at hkc
  simp only [iD, bD, bV] at hkc
  refine fn_ok Try.func60 rfl Try.ntmps60 Try.results60 rfl 0 25085 (by simp) (by simp) ?_

  simp only [vsA, vsB, vsC, appendWp, Nat.reduceShiftRight, Nat.reduceMod, Nat.reduceLT, Nat.reduceMul, Nat.reduceSub, Int.reduceToNat, Int.reduceNeg, Int.reduceLT, Int.reduceLE, Int.reduceEq, Nat.reduceEqDiff, Nat.reduceAdd, Nat.reduceLeDiff, reduceIte, reduceCtorEq, Nat.reduceBEq, tysA, i64, reEl, Re.cells_eq re, iD, bD, bV]
  refine loop_rule (fun n e s => ∃ i : Nat, n = re.kids.length - i ∧ i ≤ re.kids.length ∧ e 0 = reEl re ∧ e 3 = i64 (kidSum ((re.kids.take i).map Re.esz)) ∧ e 13 = i64 re.kids.length ∧ e 14 = i64 i ∧ s = [])
    ⟨_, _, _, Cln.refl, 0, rfl, by omega, by simp [reEl, Re.cells_eq re, iD, bD]; rfl, rfl, rfl, rfl, rfl⟩ ?_
  rintro n e s ⟨i, rfl, hi, h0, h3, h13, h14, rfl⟩
  rcases Nat.lt_or_ge i re.kids.length with hlt | hge
  · obtain ⟨k, hk⟩ : ∃ k, re.kids[i]? = some k := ⟨_, List.getElem?_eq_getElem hlt⟩
    have hm := List.mem_of_getElem? hk
    have hks := hfk k hm
    simp only [vsA, vsB, vsC, appendWp, Nat.reduceShiftRight, Nat.reduceMod, Nat.reduceLT, Nat.reduceMul, Nat.reduceSub, Int.reduceToNat, Int.reduceNeg, Int.reduceLT, Int.reduceLE, Int.reduceEq, Nat.reduceEqDiff, Nat.reduceAdd, Nat.reduceLeDiff, reduceIte, reduceCtorEq, Nat.reduceBEq, tysA, i64, reEl, Re.cells_eq re, iD, bD, bV, h0, h3, h13, h14, hlt, hk]
    refine call_pure (ih k hm hks) (by simp [refsV, refsV.go, reV_eq, i64, bV, reEl]) (by simp [refsV, refsV.go, reV_eq, i64, bV, reEl]) ?_
    simp only [vsA, vsB, vsC, appendWp, Nat.reduceShiftRight, Nat.reduceMod, Nat.reduceLT, Nat.reduceMul, Nat.reduceSub, Int.reduceToNat, Int.reduceNeg, Int.reduceLT, Int.reduceLE, Int.reduceEq, Nat.reduceEqDiff, Nat.reduceAdd, Nat.reduceLeDiff, reduceIte, reduceCtorEq, Nat.reduceBEq, tysA, i64, reEl, Re.cells_eq re, iD, bD, bV, h0, h3, h13, h14]
    refine ⟨re.kids.length - (i + 1), _, _, by omega, Cln.refl, i + 1, rfl, hlt, ?_, ?_, ?_, ?_, rfl⟩ <;> (try simp only [keepE_app, List.contains_cons, List.contains_nil, Nat.reduceBEq, Bool.or_false, Bool.false_or, Bool.or_true, Bool.true_or, updE, trimE_upd, trimE_trim, trimE_app, Nat.reduceShiftRight, Nat.reduceMod, Nat.reduceEqDiff, if_true, if_false, reduceIte])
    · simpa [reEl, Re.cells_eq re, iD, bD] using h0
    · rw [take_get hk, List.map_append, List.map_cons, List.map_nil, kidSum_snoc]
    · exact h13
    · rw [w64 _ (by omega)]; rfl
  have hie : i = re.kids.length := by omega
  subst hie
  rw [List.take_length] at h3
  rw [Re.esz_eq]
  generalize kidSum (re.kids.map Re.esz) = kid at *
  by_cases o4 : re.op = 4
  · simp only [vsA, vsB, vsC, appendWp, Nat.reduceShiftRight, Nat.reduceMod, Nat.reduceLT, Nat.reduceMul, Nat.reduceSub, Int.reduceToNat, Int.reduceNeg, Int.reduceLT, Int.reduceLE, Int.reduceEq, Nat.reduceEqDiff, Nat.reduceAdd, Nat.reduceLeDiff, reduceIte, reduceCtorEq, Nat.reduceBEq, tysA, i64, reEl, Re.cells_eq re, iD, bD, bV, h0, h3, h13, h14, Nat.lt_irrefl, o4]
    refine call_pure (o4 ▸ hkc) (by simp [refsV, refsV.go, reV_eq, i64, bV, reEl]) (by simp [refsV, refsV.go, reV_eq, i64, bV, reEl]) ?_
    cases hkp : re.kept with
    | true =>
      have hkp' : (decide (re.mn = 0) && (decide (re.mx = -1) || decide (re.mx = 1))) = true := hkp
      simp only [vsA, vsB, vsC, appendWp, Nat.reduceShiftRight, Nat.reduceMod, Nat.reduceLT, Nat.reduceMul, Nat.reduceSub, Int.reduceToNat, Int.reduceNeg, Int.reduceLT, Int.reduceLE, Int.reduceEq, Nat.reduceEqDiff, Nat.reduceAdd, Nat.reduceLeDiff, reduceIte, reduceCtorEq, Nat.reduceBEq, tysA, i64, reEl, Re.cells_eq re, iD, bD, bV, h0, h3, hkp]
      simp only [eszNode, hkp', or_true, if_true]
    | false =>
      have hkp' : (decide (re.mn = 0) && (decide (re.mx = -1) || decide (re.mx = 1))) = false := hkp
      by_cases m1 : re.mx = -1
      · by_cases hp : 1 < IntKind.i64.wrap (min (max re.mn 0) 4097 + 1)
        · simp only [vsA, vsB, vsC, appendWp, Nat.reduceShiftRight, Nat.reduceMod, Nat.reduceLT, Nat.reduceMul, Nat.reduceSub, Int.reduceToNat, Int.reduceNeg, Int.reduceLT, Int.reduceLE, Int.reduceEq, Nat.reduceEqDiff, Nat.reduceAdd, Nat.reduceLeDiff, reduceIte, reduceCtorEq, Nat.reduceBEq, tysA, i64, reEl, Re.cells_eq re, iD, bD, bV, h0, h3, hkp, m1, hp]
          rw [eszNode, if_neg (by first | (rw [hkp']; simp [o4]) | (rw [m1] at hkp'; rw [hkp']; simp))]; simp [m1, hp]
        · simp only [vsA, vsB, vsC, appendWp, Nat.reduceShiftRight, Nat.reduceMod, Nat.reduceLT, Nat.reduceMul, Nat.reduceSub, Int.reduceToNat, Int.reduceNeg, Int.reduceLT, Int.reduceLE, Int.reduceEq, Nat.reduceEqDiff, Nat.reduceAdd, Nat.reduceLeDiff, reduceIte, reduceCtorEq, Nat.reduceBEq, tysA, i64, reEl, Re.cells_eq re, iD, bD, bV, h0, h3, hkp, m1, hp]
          rw [eszNode, if_neg (by first | (rw [hkp']; simp [o4]) | (rw [m1] at hkp'; rw [hkp']; simp))]; simp [m1, hp]
      · simp only [vsA, vsB, vsC, appendWp, Nat.reduceShiftRight, Nat.reduceMod, Nat.reduceLT, Nat.reduceMul, Nat.reduceSub, Int.reduceToNat, Int.reduceNeg, Int.reduceLT, Int.reduceLE, Int.reduceEq, Nat.reduceEqDiff, Nat.reduceAdd, Nat.reduceLeDiff, reduceIte, reduceCtorEq, Nat.reduceBEq, tysA, i64, reEl, Re.cells_eq re, iD, bD, bV, h0, h3, hkp, m1]
        refine draw_c mix [] [] (by rfl) ?_
        by_cases hmo : 0 < min (IntKind.i64.wrap (re.mx - re.mn)) 4097
        · by_cases hp : 1 < IntKind.i64.wrap (min (max re.mn 0) 4097 + 1)
          · simp only [vsA, vsB, vsC, appendWp, Nat.reduceShiftRight, Nat.reduceMod, Nat.reduceLT, Nat.reduceMul, Nat.reduceSub, Int.reduceToNat, Int.reduceNeg, Int.reduceLT, Int.reduceLE, Int.reduceEq, Nat.reduceEqDiff, Nat.reduceAdd, Nat.reduceLeDiff, reduceIte, reduceCtorEq, Nat.reduceBEq, tysA, i64, reEl, Re.cells_eq re, iD, bD, bV, h0, h3, hkp, m1, hmo, hp]
            rw [eszNode, if_neg (by first | (rw [hkp']; simp [o4]) | (rw [m1] at hkp'; rw [hkp']; simp))]; simp [m1, hmo, hp]
          · simp only [vsA, vsB, vsC, appendWp, Nat.reduceShiftRight, Nat.reduceMod, Nat.reduceLT, Nat.reduceMul, Nat.reduceSub, Int.reduceToNat, Int.reduceNeg, Int.reduceLT, Int.reduceLE, Int.reduceEq, Nat.reduceEqDiff, Nat.reduceAdd, Nat.reduceLeDiff, reduceIte, reduceCtorEq, Nat.reduceBEq, tysA, i64, reEl, Re.cells_eq re, iD, bD, bV, h0, h3, hkp, m1, hmo, hp]
            rw [eszNode, if_neg (by first | (rw [hkp']; simp [o4]) | (rw [m1] at hkp'; rw [hkp']; simp))]; simp [m1, hmo, hp]
        · by_cases hp : 1 < min (max re.mn 0) 4097
          · simp only [vsA, vsB, vsC, appendWp, Nat.reduceShiftRight, Nat.reduceMod, Nat.reduceLT, Nat.reduceMul, Nat.reduceSub, Int.reduceToNat, Int.reduceNeg, Int.reduceLT, Int.reduceLE, Int.reduceEq, Nat.reduceEqDiff, Nat.reduceAdd, Nat.reduceLeDiff, reduceIte, reduceCtorEq, Nat.reduceBEq, tysA, i64, reEl, Re.cells_eq re, iD, bD, bV, h0, h3, hkp, m1, hmo, hp]
            rw [eszNode, if_neg (by first | (rw [hkp']; simp [o4]) | (rw [m1] at hkp'; rw [hkp']; simp))]; simp [m1, hmo, hp]
          · simp only [vsA, vsB, vsC, appendWp, Nat.reduceShiftRight, Nat.reduceMod, Nat.reduceLT, Nat.reduceMul, Nat.reduceSub, Int.reduceToNat, Int.reduceNeg, Int.reduceLT, Int.reduceLE, Int.reduceEq, Nat.reduceEqDiff, Nat.reduceAdd, Nat.reduceLeDiff, reduceIte, reduceCtorEq, Nat.reduceBEq, tysA, i64, reEl, Re.cells_eq re, iD, bD, bV, h0, h3, hkp, m1, hmo, hp]
            rw [eszNode, if_neg (by first | (rw [hkp']; simp [o4]) | (rw [m1] at hkp'; rw [hkp']; simp))]; simp [m1, hmo, hp]
  · simp only [vsA, vsB, vsC, appendWp, Nat.reduceShiftRight, Nat.reduceMod, Nat.reduceLT, Nat.reduceMul, Nat.reduceSub, Int.reduceToNat, Int.reduceNeg, Int.reduceLT, Int.reduceLE, Int.reduceEq, Nat.reduceEqDiff, Nat.reduceAdd, Nat.reduceLeDiff, reduceIte, reduceCtorEq, Nat.reduceBEq, tysA, i64, reEl, Re.cells_eq re, iD, bD, bV, h0, h3, h13, h14, Nat.lt_irrefl, o4]
    simp [eszNode, o4]

end Go.Proofs.Ytafbdphblilenaa
