/- Part of the proof: the program logic, or what some functions compute (F65 F66). -/
import Derived.Test.YtafbdphblilenaaE24
import Derived.Test.YtafbdphblilenaaE10
set_option linter.unusedSimpArgs false
set_option linter.unusedVariables false
set_option linter.unusedSimpArgs false
set_option linter.unusedVariables false
namespace Go.Proofs.Ytafbdphblilenaa
open Go.VL

/-! ### The reference of Expand: joined, Expands -/

set_option maxRecDepth 100000 in
set_option maxHeartbeats 8000000 in
theorem refJoined_ok (l : List Re) : PureOK Try.prog 75 [.d (.sl (l.map Re.cells))] (reV (joinR l)) := by
  refine fn_ok Try.func75 rfl Try.ntmps75 Try.results75 rfl 0 5 (by simp) (by simp) ?_
  rcases l with _ | ⟨x, _ | ⟨y, l⟩⟩
  · simp only [vsA, vsB, vsC, appendWp, Nat.reduceShiftRight, Nat.reduceMod, Nat.reduceLT, Nat.reduceMul, Nat.reduceSub, Int.reduceToNat, Int.reduceNeg, Int.reduceLT, Int.reduceLE, Int.reduceEq, Nat.reduceEqDiff, Nat.reduceAdd, Nat.reduceLeDiff, reduceIte, reduceCtorEq, Nat.reduceBEq, tysA, Int.natCast_zero]
    rw [reV_eq]; rfl
  · rw [show joinR [x] = x from rfl]
    simp only [vsA, vsB, vsC, appendWp, Nat.reduceShiftRight, Nat.reduceMod, Nat.reduceLT, Nat.reduceMul, Nat.reduceSub, Int.reduceToNat, Int.reduceNeg, Int.reduceLT, Int.reduceLE, Int.reduceEq, Nat.reduceEqDiff, Nat.reduceAdd, Nat.reduceLeDiff, reduceIte, reduceCtorEq, Nat.reduceBEq, tysA, Int.natCast_one, Re.cells_eq x, reV_eq x, iD, bD]
    all_goals first | exact ⟨rfl, rfl⟩ | exact ⟨rfl, trivial⟩ | rfl | trivial | (rw [reV_eq]; rfl)
  · have hn : ¬ ((l.length : Int) + 1 + 1 = 1) := by omega
    simp only [vsA, vsB, vsC, appendWp, Nat.reduceShiftRight, Nat.reduceMod, Nat.reduceLT, Nat.reduceMul, Nat.reduceSub, Int.reduceToNat, Int.reduceNeg, Int.reduceLT, Int.reduceLE, Int.reduceEq, Nat.reduceEqDiff, Nat.reduceAdd, Nat.reduceLeDiff, reduceIte, reduceCtorEq, Nat.reduceBEq, tysA, hn, Int.natCast_add, Int.natCast_one]
    rw [reV_eq]; rfl

set_option maxRecDepth 100000 in
set_option maxHeartbeats 8000000 in
theorem refExpands_ok (re : Re) (hs : re.size ≤ 1000000) (hv : re.every valB = true) : PureOK Try.prog 34 [reV re] (bV re.exa) := by
  revert hs hv
  refine Re.ind (Q := fun re => re.size ≤ 1000000 → re.every valB = true → PureOK Try.prog 34 [reV re] (bV re.exa)) (fun re ih hs hv => ?_) re
  obtain ⟨hv1, hv2⟩ := (Re.every_iff re).1 hv
  have hlen := Re.len_le re.kids
  have hsz := Re.size_eq re
  refine fn_ok Try.func34 rfl Try.ntmps34 Try.results34 rfl 0 31 (by simp) (by simp) ?_
  have hexa := Re.exa_eq re
  have hloop : exaNode re.op re.mx re.mn re.mode re.kids (re.kids.map Re.anul) = true → re.exa = re.kids.all Re.exa := fun h => by rw [hexa, h, Bool.true_and]
  by_cases o4 : re.op = 4
  case' pos =>
    have hk1 := ((of_decide_eq_true hv1).2.2.1 o4).1
    obtain ⟨k, hk⟩ : ∃ k, re.kids = [k] := List.length_eq_one_iff.1 hk1
    have hm : k ∈ re.kids := by rw [hk]; simp
    have hk0 : re.kids[0]? = some k := by rw [hk]; rfl
    have hl0 : (0 : Int) < re.kids.length := by omega
    have hka0 : (re.kids.map Re.anul).headD false = k.anul := by rw [hk]; rfl
    have hkz := Re.size_kid hm
    have hn := refNullable_ok k (by omega)
    rw [← anul_nul k (hv2 k hm)] at hn
    have hst : (re.mn = 0 ∧ re.mx = -1) ∨ (re.mn = 0 ∧ ¬ re.mx = -1 ∧ re.mx = 1) ∨ (¬ re.mn = 0) ∨ (re.mn = 0 ∧ ¬ re.mx = -1 ∧ ¬ re.mx = 1) := by omega
    by_cases m2 : re.mode = 2
    case' pos =>
      have hres : re.exa = false := by rw [hexa]; simp [exaNode, o4, m2]
      rw [hres]
      rcases hst with ⟨a, b⟩ | ⟨a, b, c⟩ | a | ⟨a, b, c⟩
      all_goals first | (simp only [vsL, vsB, vsC, appendWp, Nat.reduceShiftRight, Nat.reduceMod, Nat.reduceLT, Nat.reduceMul, Nat.reduceSub, Int.reduceToNat, Int.reduceNeg, Int.reduceLT, Int.reduceLE, Int.reduceEq, Nat.reduceEqDiff, Nat.reduceAdd, Nat.reduceLeDiff, reduceIte, reduceCtorEq, Nat.reduceBEq, tysA, i64, reV_eq re, iD, bD, o4, m2, a, b, c]; all_goals first | exact ⟨rfl, rfl⟩ | exact ⟨rfl, trivial⟩ | rfl | trivial | (rw [reV_eq]; rfl); done) | (simp only [vsL, vsB, vsC, appendWp, Nat.reduceShiftRight, Nat.reduceMod, Nat.reduceLT, Nat.reduceMul, Nat.reduceSub, Int.reduceToNat, Int.reduceNeg, Int.reduceLT, Int.reduceLE, Int.reduceEq, Nat.reduceEqDiff, Nat.reduceAdd, Nat.reduceLeDiff, reduceIte, reduceCtorEq, Nat.reduceBEq, tysA, i64, reV_eq re, iD, bD, o4, m2, a, b]; all_goals first | exact ⟨rfl, rfl⟩ | exact ⟨rfl, trivial⟩ | rfl | trivial | (rw [reV_eq]; rfl); done) | (simp only [vsL, vsB, vsC, appendWp, Nat.reduceShiftRight, Nat.reduceMod, Nat.reduceLT, Nat.reduceMul, Nat.reduceSub, Int.reduceToNat, Int.reduceNeg, Int.reduceLT, Int.reduceLE, Int.reduceEq, Nat.reduceEqDiff, Nat.reduceAdd, Nat.reduceLeDiff, reduceIte, reduceCtorEq, Nat.reduceBEq, tysA, i64, reV_eq re, iD, bD, o4, m2, a]; all_goals first | exact ⟨rfl, rfl⟩ | exact ⟨rfl, trivial⟩ | rfl | trivial | (rw [reV_eq]; rfl); done)
    case' neg =>
      rcases hst with ⟨a, b⟩ | ⟨a, b, c⟩ | a | ⟨a, b, c⟩
      case' inl => 
        have hno : exaNode re.op re.mx re.mn re.mode re.kids (re.kids.map Re.anul) = true := by simp [exaNode, o4, m2, a, b, hk1]
        simp only [vsL, vsB, vsC, appendWp, Nat.reduceShiftRight, Nat.reduceMod, Nat.reduceLT, Nat.reduceMul, Nat.reduceSub, Int.reduceToNat, Int.reduceNeg, Int.reduceLT, Int.reduceLE, Int.reduceEq, Nat.reduceEqDiff, Nat.reduceAdd, Nat.reduceLeDiff, reduceIte, reduceCtorEq, Nat.reduceBEq, tysA, i64, reV_eq re, iD, bD, o4, m2, a, b]
      case' inr.inl => 
        have hno : exaNode re.op re.mx re.mn re.mode re.kids (re.kids.map Re.anul) = true := by simp [exaNode, o4, m2, a, c, hk1]
        simp only [vsL, vsB, vsC, appendWp, Nat.reduceShiftRight, Nat.reduceMod, Nat.reduceLT, Nat.reduceMul, Nat.reduceSub, Int.reduceToNat, Int.reduceNeg, Int.reduceLT, Int.reduceLE, Int.reduceEq, Nat.reduceEqDiff, Nat.reduceAdd, Nat.reduceLeDiff, reduceIte, reduceCtorEq, Nat.reduceBEq, tysA, i64, reV_eq re, iD, bD, o4, m2, a, b, c]
      case' inr.inr.inl =>
        simp only [vsL, vsB, vsC, appendWp, Nat.reduceShiftRight, Nat.reduceMod, Nat.reduceLT, Nat.reduceMul, Nat.reduceSub, Int.reduceToNat, Int.reduceNeg, Int.reduceLT, Int.reduceLE, Int.reduceEq, Nat.reduceEqDiff, Nat.reduceAdd, Nat.reduceLeDiff, reduceIte, reduceCtorEq, Nat.reduceBEq, tysA, i64, reV_eq re, iD, bD, o4, m2, a, hl0, hk0]
        refine call_pure hn (by simp [refsV, refsV.go, reV_eq, i64, bV, reEl]) (by simp [refsV, refsV.go, reV_eq, i64, bV, reEl]) ?_
        cases hka : k.anul
        case' true =>
          have hres : re.exa = false := by
            rw [hexa]; unfold exaNode; rw [hka0, hka]; simp [o4, a]
          rw [hres]
          simp only [vsL, vsB, vsC, appendWp, Nat.reduceShiftRight, Nat.reduceMod, Nat.reduceLT, Nat.reduceMul, Nat.reduceSub, Int.reduceToNat, Int.reduceNeg, Int.reduceLT, Int.reduceLE, Int.reduceEq, Nat.reduceEqDiff, Nat.reduceAdd, Nat.reduceLeDiff, reduceIte, reduceCtorEq, Nat.reduceBEq, tysA, i64, bV]
          all_goals first | exact ⟨rfl, rfl⟩ | exact ⟨rfl, trivial⟩ | rfl | trivial | (rw [reV_eq]; rfl)
          done
        have hno : exaNode re.op re.mx re.mn re.mode re.kids (re.kids.map Re.anul) = true := by
          unfold exaNode; rw [hka0, hka]; simp [o4, m2, hk1]
        simp only [vsL, vsB, vsC, appendWp, Nat.reduceShiftRight, Nat.reduceMod, Nat.reduceLT, Nat.reduceMul, Nat.reduceSub, Int.reduceToNat, Int.reduceNeg, Int.reduceLT, Int.reduceLE, Int.reduceEq, Nat.reduceEqDiff, Nat.reduceAdd, Nat.reduceLeDiff, reduceIte, reduceCtorEq, Nat.reduceBEq, tysA, i64, bV, o4, m2, a]
      case' inr.inr.inr =>
        simp only [vsL, vsB, vsC, appendWp, Nat.reduceShiftRight, Nat.reduceMod, Nat.reduceLT, Nat.reduceMul, Nat.reduceSub, Int.reduceToNat, Int.reduceNeg, Int.reduceLT, Int.reduceLE, Int.reduceEq, Nat.reduceEqDiff, Nat.reduceAdd, Nat.reduceLeDiff, reduceIte, reduceCtorEq, Nat.reduceBEq, tysA, i64, reV_eq re, iD, bD, o4, m2, a, b, c, hl0, hk0]
        refine call_pure hn (by simp [refsV, refsV.go, reV_eq, i64, bV, reEl]) (by simp [refsV, refsV.go, reV_eq, i64, bV, reEl]) ?_
        cases hka : k.anul
        case' true =>
          have hres : re.exa = false := by
            rw [hexa]; unfold exaNode; rw [hka0, hka]; simp [o4, a, b, c]
          rw [hres]
          simp only [vsL, vsB, vsC, appendWp, Nat.reduceShiftRight, Nat.reduceMod, Nat.reduceLT, Nat.reduceMul, Nat.reduceSub, Int.reduceToNat, Int.reduceNeg, Int.reduceLT, Int.reduceLE, Int.reduceEq, Nat.reduceEqDiff, Nat.reduceAdd, Nat.reduceLeDiff, reduceIte, reduceCtorEq, Nat.reduceBEq, tysA, i64, bV]
          all_goals first | exact ⟨rfl, rfl⟩ | exact ⟨rfl, trivial⟩ | rfl | trivial | (rw [reV_eq]; rfl)
          done
        have hno : exaNode re.op re.mx re.mn re.mode re.kids (re.kids.map Re.anul) = true := by
          unfold exaNode; rw [hka0, hka]; simp [o4, m2, hk1]
        simp only [vsL, vsB, vsC, appendWp, Nat.reduceShiftRight, Nat.reduceMod, Nat.reduceLT, Nat.reduceMul, Nat.reduceSub, Int.reduceToNat, Int.reduceNeg, Int.reduceLT, Int.reduceLE, Int.reduceEq, Nat.reduceEqDiff, Nat.reduceAdd, Nat.reduceLeDiff, reduceIte, reduceCtorEq, Nat.reduceBEq, tysA, i64, bV, o4, m2, a, b, c]
  case' neg =>
    have hno : exaNode re.op re.mx re.mn re.mode re.kids (re.kids.map Re.anul) = true := by simp [exaNode, o4]
    simp only [vsL, vsB, vsC, appendWp, Nat.reduceShiftRight, Nat.reduceMod, Nat.reduceLT, Nat.reduceMul, Nat.reduceSub, Int.reduceToNat, Int.reduceNeg, Int.reduceLT, Int.reduceLE, Int.reduceEq, Nat.reduceEqDiff, Nat.reduceAdd, Nat.reduceLeDiff, reduceIte, reduceCtorEq, Nat.reduceBEq, tysA, i64, reV_eq re, iD, bD, o4]
  all_goals
    rw [hloop hno]
    clear hloop
    refine loop_rule (fun n e s => ∃ i : Nat, n = re.kids.length - i ∧ i ≤ re.kids.length ∧ e 1 = .rf 0 0 0 0 ∧ e 4 = i64 i ∧ (∀ x ∈ re.kids.take i, x.exa = true) ∧ s = [⟨0, true, 8, [re.cells.map .d]⟩])
      ⟨_, _, _, Cln.refl, 0, rfl, by omega, rfl, rfl, by simp, by simp [Re.cells_eq re, iD, bD, *]⟩ ?_
    rintro n e s ⟨i, rfl, hi, h1, h4, hall, rfl⟩
    rcases Nat.lt_or_ge i re.kids.length with hlt | hge
    · obtain ⟨x, hx⟩ : ∃ x, re.kids[i]? = some x := ⟨_, List.getElem?_eq_getElem hlt⟩
      have hmx := List.mem_of_getElem? hx
      have hxz := Re.size_kid hmx
      simp only [vsL, vsB, vsC, appendWp, Nat.reduceShiftRight, Nat.reduceMod, Nat.reduceLT, Nat.reduceMul, Nat.reduceSub, Int.reduceToNat, Int.reduceNeg, Int.reduceLT, Int.reduceLE, Int.reduceEq, Nat.reduceEqDiff, Nat.reduceAdd, Nat.reduceLeDiff, reduceIte, reduceCtorEq, Nat.reduceBEq, tysA, i64, Re.cells_eq re, iD, bD, h1, h4, hlt, hx]
      refine call_pure (ih x hmx (by omega) (hv2 x hmx)) (by simp [refsV, refsV.go, reV_eq, i64, bV, reEl]) (by simp [refsV, refsV.go, reV_eq, i64, bV, reEl]) ?_
      cases hxe : x.exa with
      | false =>
        have hfa : re.kids.all Re.exa = false := by
          rw [Bool.eq_false_iff]; intro h
          have := List.all_eq_true.1 h x hmx
          rw [hxe] at this; cases this
        rw [hfa]
        simp only [vsL, vsB, vsC, appendWp, Nat.reduceShiftRight, Nat.reduceMod, Nat.reduceLT, Nat.reduceMul, Nat.reduceSub, Int.reduceToNat, Int.reduceNeg, Int.reduceLT, Int.reduceLE, Int.reduceEq, Nat.reduceEqDiff, Nat.reduceAdd, Nat.reduceLeDiff, reduceIte, reduceCtorEq, Nat.reduceBEq, tysA, i64, bV]
        all_goals first | exact ⟨rfl, rfl⟩ | exact ⟨rfl, trivial⟩ | rfl | trivial | (rw [reV_eq]; rfl)
      | true =>
        simp only [vsL, vsB, vsC, appendWp, Nat.reduceShiftRight, Nat.reduceMod, Nat.reduceLT, Nat.reduceMul, Nat.reduceSub, Int.reduceToNat, Int.reduceNeg, Int.reduceLT, Int.reduceLE, Int.reduceEq, Nat.reduceEqDiff, Nat.reduceAdd, Nat.reduceLeDiff, reduceIte, reduceCtorEq, Nat.reduceBEq, tysA, i64, bV, Re.cells_eq re, iD, bD, h1, h4]
        refine ⟨re.kids.length - (i + 1), _, _, by omega, Cln.refl, i + 1, rfl, hlt, ?_, ?_, ?_, rfl⟩ <;> (try simp only [keepE_app, List.contains_cons, List.contains_nil, Nat.reduceBEq, Bool.or_false, Bool.false_or, Bool.or_true, Bool.true_or, updE, trimE_upd, trimE_trim, trimE_app, Nat.reduceShiftRight, Nat.reduceMod, Nat.reduceEqDiff, if_true, if_false, reduceIte])
        · exact h1
        · rw [w64 _ (by omega)]; rfl
        · intro y hy
          rcases mem_take_succ hx hy with h | rfl
          · exact hall y h
          · exact hxe
    · have hie : i = re.kids.length := by omega
      subst hie
      rw [List.take_length] at hall
      rw [List.all_eq_true.2 hall]
      simp only [vsL, vsB, vsC, appendWp, Nat.reduceShiftRight, Nat.reduceMod, Nat.reduceLT, Nat.reduceMul, Nat.reduceSub, Int.reduceToNat, Int.reduceNeg, Int.reduceLT, Int.reduceLE, Int.reduceEq, Nat.reduceEqDiff, Nat.reduceAdd, Nat.reduceLeDiff, reduceIte, reduceCtorEq, Nat.reduceBEq, tysA, i64, Re.cells_eq re, iD, bD, h1, h4, Nat.lt_irrefl]
      all_goals first | exact ⟨rfl, rfl⟩ | exact ⟨rfl, trivial⟩ | rfl | trivial | (rw [reV_eq]; rfl)

end Go.Proofs.Ytafbdphblilenaa

set_option linter.unusedSimpArgs false
set_option linter.unusedVariables false
namespace Go.Proofs.Ytafbdphblilenaa
open Go.VL

/-! ### The reference of Expand: Large -/

/-- What Large says of a node: its kids' sum (with the node itself) and its last kid. -/
def lrgNode (op mn mx n k : Int) : Int :=
  if ¬ op = 4 ∨ (decide (mn = 0) && (decide (mx = -1) || decide (mx = 1))) = true then n
  else if mx = -1 then min ((mn + 1) * k + 2) 10000
  else
    let c := mx - mn
    let n1 := mx * k + c
    let n2 := if 1 < c then n1 + c - 1 else n1
    min (if 1 < mn ∨ mn = 1 ∧ 0 < c then n2 + 1 else n2) 10000

def lrgSum (l : List Int) : Int := l.foldl (fun a k => min (a + k) 10000) 1

theorem lrgSum_snoc (l : List Int) (k : Int) : lrgSum (l ++ [k]) = min (lrgSum l + k) 10000 := by simp [lrgSum, List.foldl_append]

mutual
def Re.lrg : Re → Int
  | .mk op _ kids mn mx _ _ _ => lrgNode op mn mx (lrgSum (Re.lrgL kids)) ((Re.lrgL kids).getLastD 0)
def Re.lrgL : List Re → List Int
  | [] => []
  | k :: l => k.lrg :: Re.lrgL l
end

theorem Re.lrgL_eq : ∀ l : List Re, Re.lrgL l = l.map Re.lrg
  | [] => by simp [Re.lrgL]
  | k :: l => by simp [Re.lrgL, Re.lrgL_eq l]

theorem Re.lrg_eq (re : Re) : re.lrg = lrgNode re.op re.mn re.mx (lrgSum (re.kids.map Re.lrg)) ((re.kids.map Re.lrg).getLastD 0) := by
  cases re; simp [Re.lrg, Re.lrgL_eq, Re.op, Re.mn, Re.mx, Re.kids]

theorem lrgSum_range : ∀ l : List Int, (∀ x ∈ l, 0 ≤ x ∧ x ≤ 10000) → 1 ≤ lrgSum l ∧ lrgSum l ≤ 10000 := by
  intro l h
  have aux : ∀ (l : List Int) (a : Int), 1 ≤ a → a ≤ 10000 → (∀ x ∈ l, 0 ≤ x ∧ x ≤ 10000) → 1 ≤ l.foldl (fun a k => min (a + k) 10000) a ∧ l.foldl (fun a k => min (a + k) 10000) a ≤ 10000 := by
    intro l
    induction l with
    | nil => intro a h1 h2 _; exact ⟨h1, h2⟩
    | cons x l ih =>
      intro a h1 h2 hx
      have := hx x (by simp)
      have e1 : 1 ≤ min (a + x) 10000 := by omega
      have e2 : min (a + x) 10000 ≤ 10000 := by omega
      exact ih _ e1 e2 (fun y hy => hx y (by simp [hy]))
  exact aux l 1 (by omega) (by omega) h

theorem lrgNode_range {op mn mx n k : Int} (hn : 0 ≤ n ∧ n ≤ 10000) (hk : 0 ≤ k ∧ k ≤ 10000) (h4 : op = 4 → 0 ≤ mn ∧ mn ≤ 32 ∧ (mx = -1 ∨ (1 ≤ mx ∧ mx ≤ 32 ∧ mn ≤ mx))) : 0 ≤ lrgNode op mn mx n k ∧ lrgNode op mn mx n k ≤ 10000 := by
  unfold lrgNode
  split
  · exact hn
  · rename_i h
    have o : op = 4 := by
      by_cases o : op = 4
      · exact o
      · exact absurd (.inl o) h
    obtain ⟨a, b, c⟩ := h4 o
    have m1 : 0 ≤ (mn + 1) * k := Int.mul_nonneg (by omega) hk.1
    split
    · omega
    · have m2 : 0 ≤ mx * k := Int.mul_nonneg (by omega) hk.1
      simp only
      split <;> split <;> omega

theorem lrg_range (re : Re) (hv : re.every valB = true) : 0 ≤ re.lrg ∧ re.lrg ≤ 10000 := by
  revert hv
  refine Re.ind (Q := fun re => re.every valB = true → 0 ≤ re.lrg ∧ re.lrg ≤ 10000) (fun re ih hv => ?_) re
  obtain ⟨hv1, hv2⟩ := (Re.every_iff re).1 hv
  have h1 := of_decide_eq_true hv1
  have hr : ∀ x ∈ re.kids.map Re.lrg, 0 ≤ x ∧ x ≤ 10000 := fun x hx => by
    obtain ⟨k, hk, rfl⟩ := List.mem_map.1 hx
    exact ih k hk (hv2 k hk)
  rw [Re.lrg_eq]
  refine lrgNode_range ?_ ?_ (fun o => (h1.2.2.1 o).2)
  · have := lrgSum_range _ hr; omega
  · rcases List.eq_nil_or_concat (re.kids.map Re.lrg) with h | ⟨l, x, h⟩
    · rw [h]; simp
    · have := hr x (by rw [h]; simp)
      rw [h]; simpa using this

set_option maxRecDepth 100000 in
set_option maxHeartbeats 8000000 in
theorem refLarge_ok (re : Re) (hs : re.size ≤ 1000000) (hv : re.every valB = true) : PureOK Try.prog 35 [reV re] (i64 re.lrg) := by
  revert hs hv
  refine Re.ind (Q := fun re => re.size ≤ 1000000 → re.every valB = true → PureOK Try.prog 35 [reV re] (i64 re.lrg)) (fun re ih hs hv => ?_) re
  obtain ⟨hv1, hv2⟩ := (Re.every_iff re).1 hv
  have hlen := Re.len_le re.kids
  have hsz := Re.size_eq re
  have hb := of_decide_eq_true hv1
  refine fn_ok Try.func35 rfl Try.ntmps35 Try.results35 rfl 0 127 (by simp) (by simp) ?_
  simp only [vsL, vsB, vsC, appendWp, Nat.reduceShiftRight, Nat.reduceMod, Nat.reduceLT, Nat.reduceMul, Nat.reduceSub, Int.reduceToNat, Int.reduceNeg, Int.reduceLT, Int.reduceLE, Int.reduceEq, Nat.reduceEqDiff, Nat.reduceAdd, Nat.reduceLeDiff, reduceIte, reduceCtorEq, Nat.reduceBEq, tysA, i64, reV_eq re, iD, bD]
  refine loop_rule (fun n e s => ∃ i : Nat, n = re.kids.length - i ∧ i ≤ re.kids.length ∧ e 1 = .rf 0 0 0 0 ∧ e 3 = i64 (lrgSum ((re.kids.take i).map Re.lrg)) ∧ e 4 = i64 (((re.kids.take i).map Re.lrg).getLastD 0) ∧ e 5 = i64 i ∧ s = [⟨0, true, 8, [re.cells.map .d]⟩])
    ⟨_, _, _, Cln.refl, 0, rfl, by omega, rfl, rfl, rfl, rfl, by simp [Re.cells_eq re, iD, bD]⟩ ?_
  rintro n e s ⟨i, rfl, hi, h1, h3, h4, h5, rfl⟩
  have hr : ∀ x ∈ (re.kids.take i).map Re.lrg, 0 ≤ x ∧ x ≤ 10000 := fun x hx => by
    obtain ⟨k, hk, rfl⟩ := List.mem_map.1 hx
    exact lrg_range k (hv2 k (List.mem_of_mem_take hk))
  have hsum := lrgSum_range _ hr
  rcases Nat.lt_or_ge i re.kids.length with hlt | hge
  · obtain ⟨x, hx⟩ : ∃ x, re.kids[i]? = some x := ⟨_, List.getElem?_eq_getElem hlt⟩
    have hmx := List.mem_of_getElem? hx
    have hxz := Re.size_kid hmx
    have hxr := lrg_range x (hv2 x hmx)
    have hsn := lrgSum_snoc ((re.kids.take i).map Re.lrg) x.lrg
    have htk : (re.kids.take (i + 1)).map Re.lrg = (re.kids.take i).map Re.lrg ++ [x.lrg] := by rw [take_get hx]; simp
    have hc := ih x hmx (by omega) (hv2 x hmx)
    generalize lrgSum ((re.kids.take i).map Re.lrg) = A at *
    have w1 : IntKind.i64.wrap (A + x.lrg) = A + x.lrg := w64 _ (by omega)
    simp only [vsL, vsB, vsC, appendWp, Nat.reduceShiftRight, Nat.reduceMod, Nat.reduceLT, Nat.reduceMul, Nat.reduceSub, Int.reduceToNat, Int.reduceNeg, Int.reduceLT, Int.reduceLE, Int.reduceEq, Nat.reduceEqDiff, Nat.reduceAdd, Nat.reduceLeDiff, reduceIte, reduceCtorEq, Nat.reduceBEq, tysA, i64, Re.cells_eq re, iD, bD, h1, h3, h4, h5, hlt, hx]
    refine call_pure hc (by simp [refsV, refsV.go, reV_eq, i64, bV, reEl]) (by simp [refsV, refsV.go, reV_eq, i64, bV, reEl]) ?_
    simp only [vsL, vsB, vsC, appendWp, Nat.reduceShiftRight, Nat.reduceMod, Nat.reduceLT, Nat.reduceMul, Nat.reduceSub, Int.reduceToNat, Int.reduceNeg, Int.reduceLT, Int.reduceLE, Int.reduceEq, Nat.reduceEqDiff, Nat.reduceAdd, Nat.reduceLeDiff, reduceIte, reduceCtorEq, Nat.reduceBEq, tysA, i64, bV, Re.cells_eq re, iD, bD, h1, h3, h4, h5, w1]
    refine ⟨re.kids.length - (i + 1), _, _, by omega, Cln.refl, i + 1, rfl, hlt, ?_, ?_, ?_, ?_, rfl⟩ <;> (try simp only [keepE_app, List.contains_cons, List.contains_nil, Nat.reduceBEq, Bool.or_false, Bool.false_or, Bool.or_true, Bool.true_or, updE, trimE_upd, trimE_trim, trimE_app, Nat.reduceShiftRight, Nat.reduceMod, Nat.reduceEqDiff, if_true, if_false, reduceIte])
    · exact h1
    · rw [htk, hsn]
    · rw [htk]; simp
    · rw [w64 _ (by omega)]; rfl
  have hie : i = re.kids.length := by omega
  subst hie
  rw [List.take_length] at h3 h4 hsum hr
  have hk0 : 0 ≤ (re.kids.map Re.lrg).getLastD 0 ∧ (re.kids.map Re.lrg).getLastD 0 ≤ 10000 := by
    rcases List.eq_nil_or_concat (re.kids.map Re.lrg) with h | ⟨l, x, h⟩
    · rw [h]; simp
    · have := hr x (by rw [h]; simp)
      rw [h]; simpa using this
  rw [Re.lrg_eq re]
  generalize lrgSum (re.kids.map Re.lrg) = A at *
  generalize (re.kids.map Re.lrg).getLastD 0 = k at *
  clear ih hr hsz hv hv1 hv2 hs hi hge
  by_cases o4 : re.op = 4
  rotate_left
  · simp only [vsL, vsB, vsC, appendWp, Nat.reduceShiftRight, Nat.reduceMod, Nat.reduceLT, Nat.reduceMul, Nat.reduceSub, Int.reduceToNat, Int.reduceNeg, Int.reduceLT, Int.reduceLE, Int.reduceEq, Nat.reduceEqDiff, Nat.reduceAdd, Nat.reduceLeDiff, reduceIte, reduceCtorEq, Nat.reduceBEq, tysA, i64, Re.cells_eq re, iD, bD, h1, h3, h4, h5, Nat.lt_irrefl, o4]
    simp [lrgNode, o4]
  obtain ⟨_, m0, m1, mm⟩ := hb.2.2.1 o4
  clear hb
  by_cases mx1 : re.mx = -1
  · have hp : 0 ≤ (re.mn + 1) * k ∧ (re.mn + 1) * k ≤ 330000 := ⟨Int.mul_nonneg (by omega) hk0.1, by have := Int.mul_le_mul (show re.mn + 1 ≤ 33 by omega) hk0.2 hk0.1 (by omega); omega⟩
    have w1 : IntKind.i64.wrap (re.mn + 1) = re.mn + 1 := w64 _ (by omega)
    have w2 : IntKind.i64.wrap ((re.mn + 1) * k) = (re.mn + 1) * k := w64 _ (by omega)
    have w3 : IntKind.i64.wrap ((re.mn + 1) * k + 2) = (re.mn + 1) * k + 2 := w64 _ (by omega)
    by_cases m00 : re.mn = 0
    · simp only [vsL, vsB, vsC, appendWp, Nat.reduceShiftRight, Nat.reduceMod, Nat.reduceLT, Nat.reduceMul, Nat.reduceSub, Int.reduceToNat, Int.reduceNeg, Int.reduceLT, Int.reduceLE, Int.reduceEq, Nat.reduceEqDiff, Nat.reduceAdd, Nat.reduceLeDiff, reduceIte, reduceCtorEq, Nat.reduceBEq, tysA, i64, Re.cells_eq re, iD, bD, h1, h3, h4, h5, Nat.lt_irrefl, o4, mx1, m00]
      simp [lrgNode]
    · simp only [vsL, vsB, vsC, appendWp, Nat.reduceShiftRight, Nat.reduceMod, Nat.reduceLT, Nat.reduceMul, Nat.reduceSub, Int.reduceToNat, Int.reduceNeg, Int.reduceLT, Int.reduceLE, Int.reduceEq, Nat.reduceEqDiff, Nat.reduceAdd, Nat.reduceLeDiff, reduceIte, reduceCtorEq, Nat.reduceBEq, tysA, i64, Re.cells_eq re, iD, bD, h1, h3, h4, h5, Nat.lt_irrefl, o4, mx1, m00, w1, w2, w3]
      simp [lrgNode, m00]
  · have hp : 0 ≤ re.mx * k ∧ re.mx * k ≤ 320000 := ⟨Int.mul_nonneg (by omega) hk0.1, by have := Int.mul_le_mul (show re.mx ≤ 32 by omega) hk0.2 hk0.1 (by omega); omega⟩
    have w1 : IntKind.i64.wrap (re.mx - re.mn) = re.mx - re.mn := w64 _ (by omega)
    have w2 : IntKind.i64.wrap (re.mx * k) = re.mx * k := w64 _ (by omega)
    have hN : ∀ A, ¬ (re.mn = 0 ∧ re.mx = 1) → lrgNode 4 re.mn re.mx A k = min (if 1 < re.mn ∨ re.mn = 1 ∧ 0 < re.mx - re.mn then (if 1 < re.mx - re.mn then re.mx * k + (re.mx - re.mn) + (re.mx - re.mn) - 1 else re.mx * k + (re.mx - re.mn)) + 1 else (if 1 < re.mx - re.mn then re.mx * k + (re.mx - re.mn) + (re.mx - re.mn) - 1 else re.mx * k + (re.mx - re.mn))) 10000 := by
      intro A hne
      unfold lrgNode
      rw [if_neg (by
        rintro (h | h)
        · exact h rfl
        · rw [Bool.and_eq_true, Bool.or_eq_true, decide_eq_true_eq, decide_eq_true_eq, decide_eq_true_eq] at h
          exact hne ⟨h.1, h.2.resolve_left mx1⟩), if_neg mx1]
    by_cases hk1 : re.mn = 0 ∧ re.mx = 1
    · obtain ⟨a, b⟩ := hk1
      have e1 : ¬ ((1 : Int) = -1) := by decide
      simp only [vsL, vsB, vsC, appendWp, Nat.reduceShiftRight, Nat.reduceMod, Nat.reduceLT, Nat.reduceMul, Nat.reduceSub, Int.reduceToNat, Int.reduceNeg, Int.reduceLT, Int.reduceLE, Int.reduceEq, Nat.reduceEqDiff, Nat.reduceAdd, Nat.reduceLeDiff, reduceIte, reduceCtorEq, Nat.reduceBEq, tysA, i64, Re.cells_eq re, iD, bD, h1, h3, h4, h5, Nat.lt_irrefl, o4, a, b, e1]
      simp [lrgNode]
    · rw [o4, hN A hk1]
      clear hN
      simp only [vsL, vsB, vsC, appendWp, Nat.reduceShiftRight, Nat.reduceMod, Nat.reduceLT, Nat.reduceMul, Nat.reduceSub, Int.reduceToNat, Int.reduceNeg, Int.reduceLT, Int.reduceLE, Int.reduceEq, Nat.reduceEqDiff, Nat.reduceAdd, Nat.reduceLeDiff, reduceIte, reduceCtorEq, Nat.reduceBEq, tysA, i64, Re.cells_eq re, iD, bD, h1, h3, h4, h5, Nat.lt_irrefl, o4, mx1]
      repeat' (first
  | (with_reducible refine And.intro (by first | omega | exact ⟨by omega, by omega⟩ | (simp; done)) ?_)
  | (with_reducible refine condS (fun hc => ?_) (fun hc => ?_) <;> simp only [vsL, vsB, vsC, appendWp, Nat.reduceShiftRight, Nat.reduceMod, Nat.reduceLT, Nat.reduceMul, Nat.reduceSub, Int.reduceToNat, Int.reduceNeg, Int.reduceLT, Int.reduceLE, Int.reduceEq, Nat.reduceEqDiff, Nat.reduceAdd, Nat.reduceLeDiff, reduceIte, reduceCtorEq, Nat.reduceBEq, tysA, i64, Re.cells_eq re, iD, bD, h1, h3, h4, h5, mx1, w1, w2, gt_iff_lt, hc])
  | (with_reducible refine guardS_t (fun hc => ?_) (fun hc => ?_) <;> simp only [vsL, vsB, vsC, appendWp, Nat.reduceShiftRight, Nat.reduceMod, Nat.reduceLT, Nat.reduceMul, Nat.reduceSub, Int.reduceToNat, Int.reduceNeg, Int.reduceLT, Int.reduceLE, Int.reduceEq, Nat.reduceEqDiff, Nat.reduceAdd, Nat.reduceLeDiff, reduceIte, reduceCtorEq, Nat.reduceBEq, tysA, i64, Re.cells_eq re, iD, bD, h1, h3, h4, h5, mx1, w1, w2, gt_iff_lt, hc])
  | (with_reducible refine guardS_f (fun hc => ?_) (fun hc => ?_) <;> simp only [vsL, vsB, vsC, appendWp, Nat.reduceShiftRight, Nat.reduceMod, Nat.reduceLT, Nat.reduceMul, Nat.reduceSub, Int.reduceToNat, Int.reduceNeg, Int.reduceLT, Int.reduceLE, Int.reduceEq, Nat.reduceEqDiff, Nat.reduceAdd, Nat.reduceLeDiff, reduceIte, reduceCtorEq, Nat.reduceBEq, tysA, i64, Re.cells_eq re, iD, bD, h1, h3, h4, h5, mx1, w1, w2, gt_iff_lt, hc])
  | (with_reducible refine guardS_nt (fun hc => ?_) (fun hc => ?_) <;> simp only [vsL, vsB, vsC, appendWp, Nat.reduceShiftRight, Nat.reduceMod, Nat.reduceLT, Nat.reduceMul, Nat.reduceSub, Int.reduceToNat, Int.reduceNeg, Int.reduceLT, Int.reduceLE, Int.reduceEq, Nat.reduceEqDiff, Nat.reduceAdd, Nat.reduceLeDiff, reduceIte, reduceCtorEq, Nat.reduceBEq, tysA, i64, Re.cells_eq re, iD, bD, h1, h3, h4, h5, mx1, w1, w2, gt_iff_lt, hc])
  | (with_reducible refine guardS_nf (fun hc => ?_) (fun hc => ?_) <;> simp only [vsL, vsB, vsC, appendWp, Nat.reduceShiftRight, Nat.reduceMod, Nat.reduceLT, Nat.reduceMul, Nat.reduceSub, Int.reduceToNat, Int.reduceNeg, Int.reduceLT, Int.reduceLE, Int.reduceEq, Nat.reduceEqDiff, Nat.reduceAdd, Nat.reduceLeDiff, reduceIte, reduceCtorEq, Nat.reduceBEq, tysA, i64, Re.cells_eq re, iD, bD, h1, h3, h4, h5, mx1, w1, w2, gt_iff_lt, hc])
  | (with_reducible refine condSb (fun hc => ?_) (fun hc => ?_) <;> simp only [vsL, vsB, vsC, appendWp, Nat.reduceShiftRight, Nat.reduceMod, Nat.reduceLT, Nat.reduceMul, Nat.reduceSub, Int.reduceToNat, Int.reduceNeg, Int.reduceLT, Int.reduceLE, Int.reduceEq, Nat.reduceEqDiff, Nat.reduceAdd, Nat.reduceLeDiff, reduceIte, reduceCtorEq, Nat.reduceBEq, tysA, i64, Re.cells_eq re, iD, bD, h1, h3, h4, h5, mx1, w1, w2, gt_iff_lt, hc])
  | (with_reducible refine guardS_b (fun hc => ?_) (fun hc => ?_) <;> simp only [vsL, vsB, vsC, appendWp, Nat.reduceShiftRight, Nat.reduceMod, Nat.reduceLT, Nat.reduceMul, Nat.reduceSub, Int.reduceToNat, Int.reduceNeg, Int.reduceLT, Int.reduceLE, Int.reduceEq, Nat.reduceEqDiff, Nat.reduceAdd, Nat.reduceLeDiff, reduceIte, reduceCtorEq, Nat.reduceBEq, tysA, i64, Re.cells_eq re, iD, bD, h1, h3, h4, h5, mx1, w1, w2, gt_iff_lt, hc]))
      all_goals try (exfalso; omega)
      all_goals
        generalize re.mx * k = P at *
        clear h1 h3 h4 h5 w1 w2
        simp (disch := omega) only [w64, Int.sub_zero, false_and, true_and, and_true, and_false, or_false, false_or, Int.reduceEq, Int.reduceLT, if_false, if_true, reduceIte] at *
        try simp (disch := omega) only [if_pos, if_neg]
        try omega

end Go.Proofs.Ytafbdphblilenaa
