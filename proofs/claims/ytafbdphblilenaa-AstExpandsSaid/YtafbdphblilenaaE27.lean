/- Part of the proof: the program logic, or what some functions compute (F68). -/
import Derived.Test.YtafbdphblilenaaE2
import Derived.Test.YtafbdphblilenaaE26
set_option linter.unusedSimpArgs false
set_option linter.unusedVariables false
set_option linter.unusedSimpArgs false
set_option linter.unusedVariables false
namespace Go.Proofs.Ytafbdphblilenaa
open Go.VL

/-! ### The reference of Expand: Expanded -/

/-- The reference's object for the tree: the kids are v. -/
def xpO (re : Re) (v : V) : VL.Obj := ⟨0, true, 8, [[i64 re.op, .d (.sl (re.set.map spanC)), v, i64 re.mn, i64 re.mx, i64 re.mode, i64 re.n, bV re.neg]]⟩
def zeroD : VL.Obj := ⟨0, true, 8, [[i64 0, .d (.sl []), .d (.sl []), i64 0, i64 0, i64 0, i64 0, bV false]]⟩

def restL (mode : Int) (x : Re) : Nat → List Re
  | 0 => []
  | j + 1 => [restR mode x j]

theorem restL_step (mode : Int) (x : Re) (j : Nat) : restL mode x (j + 1) = [rept (joinR (x :: restL mode x j)) 1 mode] := by
  cases j <;> rfl

theorem tailR_rest {re x : Re} (h : re.mx ≠ -1) (hb : re.mn ≤ re.mx) : tailR re x = restL re.mode x (re.mx - re.mn).toNat := by
  unfold tailR
  rw [if_neg h]
  split
  · obtain ⟨j, hj⟩ : ∃ j, (re.mx - re.mn).toNat = j + 1 := ⟨(re.mx - re.mn).toNat - 1, by omega⟩
    rw [hj, show (re.mx - re.mn - 1).toNat = j by omega]; rfl
  · rw [show (re.mx - re.mn).toNat = 0 by omega]; rfl

set_option maxRecDepth 100000 in
set_option maxHeartbeats 8000000 in
theorem refExpanded_ok (re : Re) (hs : re.size ≤ 1000000) (hv : re.every valB = true) : PureOK Try.prog 36 [reV re] (reV re.exp) := by
  revert hs hv
  refine Re.ind (Q := fun re => re.size ≤ 1000000 → re.every valB = true → PureOK Try.prog 36 [reV re] (reV re.exp)) (fun re ih hs hv => ?_) re
  obtain ⟨hv1, hv2⟩ := (Re.every_iff re).1 hv
  have hlen := Re.len_le re.kids
  have hsz := Re.size_eq re
  have hb := of_decide_eq_true hv1
  refine fn_ok Try.func36 rfl Try.ntmps36 Try.results36 rfl 0 511 (by simp) (by simp) ?_
  simp only [vsL, vsB, vsC, Nat.reduceShiftRight, Nat.reduceMod, Nat.reduceLT, Nat.reduceMul, Nat.reduceSub, Int.reduceToNat, Int.reduceNeg, Int.reduceLT, Int.reduceLE, Int.reduceEq, Nat.reduceEqDiff, Nat.reduceAdd, Nat.reduceLeDiff, reduceIte, reduceCtorEq, Nat.reduceBEq, tysA, i64, reV_eq re, iD, bD]
  refine loop_rule (fun n e s => ∃ i : Nat, n = re.kids.length - i ∧ i ≤ re.kids.length ∧ e 1 = .rf 0 0 0 0 ∧ e 2 = .rf 1 0 0 0 ∧ e 4 = i64 i ∧ Acc [xpO re (.d (.sl (re.kids.map Re.cells))), zeroO] 8 (e 3) s ((re.kids.take i).map fun k => k.exp.cells))
    ⟨_, _, _, Cln.refl, 0, rfl, by omega, rfl, rfl, rfl, .inl ⟨rfl, rfl⟩⟩ ?_
  rintro n e s ⟨i, rfl, hi, h1, h2, h4, hacc⟩
  have hB := hacc.get (id := 0) rfl
  unfold xpO at hB
  rcases Nat.lt_or_ge i re.kids.length with hlt | hge
  · obtain ⟨x, hx⟩ : ∃ x, re.kids[i]? = some x := ⟨_, List.getElem?_eq_getElem hlt⟩
    have hmx := List.mem_of_getElem? hx
    have hxz := Re.size_kid hmx
    simp only [vsL, vsB, vsC, Nat.reduceShiftRight, Nat.reduceMod, Nat.reduceLT, Nat.reduceMul, Nat.reduceSub, Int.reduceToNat, Int.reduceNeg, Int.reduceLT, Int.reduceLE, Int.reduceEq, Nat.reduceEqDiff, Nat.reduceAdd, Nat.reduceLeDiff, reduceIte, reduceCtorEq, Nat.reduceBEq, tysA, i64, iD, bD, bV, h1, h2, h4, hB, hlt, hx]
    refine call_pure (ih x hmx (by omega) (hv2 x hmx)) (by simp [refsV, refsV.go, refsV_reV]) (refsV_reV _ _) ?_
    simp only [vsL, vsB, vsC, Nat.reduceShiftRight, Nat.reduceMod, Nat.reduceLT, Nat.reduceMul, Nat.reduceSub, Int.reduceToNat, Int.reduceNeg, Int.reduceLT, Int.reduceLE, Int.reduceEq, Nat.reduceEqDiff, Nat.reduceAdd, Nat.reduceLeDiff, reduceIte, reduceCtorEq, Nat.reduceBEq, tysA, i64, iD, bD, bV, h1, h2, h4, hB]
    refine hacc.append slTy24 rfl (by decide) (by decide) (by intro y hy; obtain ⟨z, _, rfl⟩ := List.mem_map.1 hy; exact Re.cells_len _) (by simp [Re.cells_len]) (by simp) (by simp only [List.length_map, List.length_take, List.length_cons, List.length_nil]; omega) (fun v' s' hacc' => ?_)
    simp only [vsL, vsB, vsC, Nat.reduceShiftRight, Nat.reduceMod, Nat.reduceLT, Nat.reduceMul, Nat.reduceSub, Int.reduceToNat, Int.reduceNeg, Int.reduceLT, Int.reduceLE, Int.reduceEq, Nat.reduceEqDiff, Nat.reduceAdd, Nat.reduceLeDiff, reduceIte, reduceCtorEq, Nat.reduceBEq, tysA, i64, iD, bD, h1, h2, h4]
    refine ⟨re.kids.length - (i + 1), _, _, by omega, Cln.refl, i + 1, rfl, hlt, ?_, ?_, ?_, ?_⟩ <;> (try simp only [keepE_app, List.contains_cons, List.contains_nil, Nat.reduceBEq, Bool.or_false, Bool.false_or, Bool.or_true, Bool.true_or, updE, trimE_upd, trimE_trim, trimE_app, Nat.reduceShiftRight, Nat.reduceMod, Nat.reduceEqDiff, if_true, if_false, reduceIte])
    · exact h1
    · exact h2
    · rw [w64 _ (by omega)]; rfl
    · rw [take_get hx]; simpa using hacc'
  have hie : i = re.kids.length := by omega
  subst hie
  rw [List.take_length] at hacc
  have hmm : re.kids.map (fun k => k.exp.cells) = (re.kids.map Re.exp).map Re.cells := by simp
  rw [hmm] at hacc
  clear hmm
  by_cases hkeep : re.op ≠ 4 ∨ re.kept = true
  · rw [Re.exp_keep hkeep, reV_eq]
    have hst : ¬ re.op = 4 ∨ (re.op = 4 ∧ re.mn = 0 ∧ re.mx = -1) ∨ (re.op = 4 ∧ re.mn = 0 ∧ ¬ re.mx = -1 ∧ re.mx = 1) := by
      by_cases o : re.op = 4
      · have hk := hkeep.resolve_left (fun h => h o)
        simp only [Re.kept, Bool.and_eq_true, Bool.or_eq_true, decide_eq_true_eq] at hk
        omega
      · exact .inl o
    have hkk : re.out.kids = re.kids.map Re.exp := rfl
    have h8 : re.out.op = re.op ∧ re.out.set = re.set ∧ re.out.mn = re.mn ∧ re.out.mx = re.mx ∧ re.out.mode = re.mode ∧ re.out.n = re.n ∧ re.out.neg = re.neg := ⟨rfl, rfl, rfl, rfl, rfl, rfl, rfl⟩
    rw [hkk, h8.1, h8.2.1, h8.2.2.1, h8.2.2.2.1, h8.2.2.2.2.1, h8.2.2.2.2.2.1, h8.2.2.2.2.2.2]
    generalize re.kids.map Re.exp = ks at *
    rcases hacc with ⟨h3, rfl⟩ | ⟨g, h3, rfl⟩
    all_goals
      rcases hst with o | ⟨o, a, b⟩ | ⟨o, a, b, c⟩
      · simp only [vsL, vsB, vsC, appendWp, Nat.reduceShiftRight, Nat.reduceMod, Nat.reduceLT, Nat.reduceMul, Nat.reduceSub, Int.reduceToNat, Int.reduceNeg, Int.reduceLT, Int.reduceLE, Int.reduceEq, Nat.reduceEqDiff, Nat.reduceAdd, Nat.reduceLeDiff, reduceIte, reduceCtorEq, Nat.reduceBEq, tysA, i64, iD, bD, bV, h1, h2, h3, h4, xpO, zeroO, Nat.lt_irrefl, o]
        all_goals first | rfl | (rw [frz_data _ _ _ _ _ (by simp), if_pos (by omega)]; rfl)
      · simp only [vsL, vsB, vsC, appendWp, Nat.reduceShiftRight, Nat.reduceMod, Nat.reduceLT, Nat.reduceMul, Nat.reduceSub, Int.reduceToNat, Int.reduceNeg, Int.reduceLT, Int.reduceLE, Int.reduceEq, Nat.reduceEqDiff, Nat.reduceAdd, Nat.reduceLeDiff, reduceIte, reduceCtorEq, Nat.reduceBEq, tysA, i64, iD, bD, bV, h1, h2, h3, h4, xpO, zeroO, Nat.lt_irrefl, o, a, b]
        all_goals first | rfl | (rw [frz_data _ _ _ _ _ (by simp), if_pos (by omega)]; rfl)
      · simp only [vsL, vsB, vsC, appendWp, Nat.reduceShiftRight, Nat.reduceMod, Nat.reduceLT, Nat.reduceMul, Nat.reduceSub, Int.reduceToNat, Int.reduceNeg, Int.reduceLT, Int.reduceLE, Int.reduceEq, Nat.reduceEqDiff, Nat.reduceAdd, Nat.reduceLeDiff, reduceIte, reduceCtorEq, Nat.reduceBEq, tysA, i64, iD, bD, bV, h1, h2, h3, h4, xpO, zeroO, Nat.lt_irrefl, o, a, b, c]
        all_goals first | rfl | (rw [frz_data _ _ _ _ _ (by simp), if_pos (by omega)]; rfl)
  obtain ⟨o, hkp, hub, k, hkk⟩ : re.op = 4 ∧ re.kept = false ∧ (0 ≤ re.mn ∧ re.mn ≤ 32 ∧ (re.mx = -1 ∨ (1 ≤ re.mx ∧ re.mx ≤ 32 ∧ re.mn ≤ re.mx)) ∧ ¬ (re.mn = 0 ∧ (re.mx = -1 ∨ re.mx = 1))) ∧ ∃ k, re.kids = [k] := by
    have o : re.op = 4 := by
      by_cases o : re.op = 4
      · exact o
      · exact absurd (.inl o) hkeep
    have hkp : re.kept = false := by
      cases h : re.kept with
      | false => rfl
      | true => exact absurd (.inr h) hkeep
    obtain ⟨k1, k2, k3, k4⟩ := hb.2.2.1 o
    obtain ⟨k, hkk⟩ := List.length_eq_one_iff.1 k1
    refine ⟨o, hkp, ⟨k2, k3, k4, ?_⟩, k, hkk⟩
    rintro ⟨e1, e2⟩
    simp [Re.kept, e1] at hkp
    exact e2.elim hkp.1 hkp.2
  rw [Re.exp_un o hkp hkk, unrollR_eq]
  obtain ⟨m0, m32, mm, mk⟩ := hub
  have hst : (¬ re.mn = 0) ∨ (re.mn = 0 ∧ ¬ re.mx = -1 ∧ ¬ re.mx = 1) := by omega
  rw [hkk] at hacc hge h4
  have hk1 : ([k] : List Re).length = 1 := rfl
  simp only [List.map_cons, List.map_nil] at hacc
  generalize k.exp = x at *
  clear ih hv hv1 hv2 hb hkeep hkp hi hge hB hlen hsz hs mk
  generalize hR : joinR (List.replicate re.mn.toNat x ++ tailR re x) = R
  rcases hacc with ⟨h3, rfl⟩ | ⟨g, h3, rfl⟩
  all_goals
    rcases hst with a | ⟨a, b, c⟩
    case' inl => simp only [vsL, vsB, vsC, Nat.reduceShiftRight, Nat.reduceMod, Nat.reduceLT, Nat.reduceMul, Nat.reduceSub, Int.reduceToNat, Int.reduceNeg, Int.reduceLT, Int.reduceLE, Int.reduceEq, Nat.reduceEqDiff, Nat.reduceAdd, Nat.reduceLeDiff, reduceIte, reduceCtorEq, Nat.reduceBEq, tysA, i64, iD, bD, bV, h1, h2, h3, h4, xpO, zeroO, Nat.lt_irrefl, hkk, hk1, o, a]
    case' inr => simp only [vsL, vsB, vsC, Nat.reduceShiftRight, Nat.reduceMod, Nat.reduceLT, Nat.reduceMul, Nat.reduceSub, Int.reduceToNat, Int.reduceNeg, Int.reduceLT, Int.reduceLE, Int.reduceEq, Nat.reduceEqDiff, Nat.reduceAdd, Nat.reduceLeDiff, reduceIte, reduceCtorEq, Nat.reduceBEq, tysA, i64, iD, bD, bV, h1, h2, h3, h4, xpO, zeroO, Nat.lt_irrefl, hkk, hk1, o, a, b, c]
  all_goals
    refine loop_rule (fun n e s => ∃ i : Nat, n = re.mn.toNat - i ∧ i ≤ re.mn.toNat ∧ e 1 = .rf 0 0 0 0 ∧ e 2 = .rf 1 0 0 0 ∧ e 3 = .d (.sl [x.cells]) ∧ e 6 = i64 i ∧ Acc [xpO re (.d (.sl [x.cells])), zeroD] 8 (e 5) s ((List.replicate i x).map Re.cells))
      ⟨_, _, _, Cln.dropK 2 (by omega) [1, 2, 3, 6] [5] (by simp [updE, trimE_app, refsV]), 0, rfl, by omega, ?_, ?_, ?_, ?_, .inl ⟨?_, ?_⟩⟩ ?_
    all_goals try (simp [cleanE, cleanV, cleanS, updE, frzV, frzD, trimE_app, i64, bV, h1, h2, h3, xpO, zeroD, o, a]; done)
    all_goals try (simp only [cleanS, List.map_cons, List.map_nil, List.take, xpO, zeroD, i64, bV, o, a, cleanE, cleanV, List.contains_cons, List.contains_nil, Nat.reduceBEq, Bool.or_false, Bool.false_or, Bool.true_or, Bool.or_true, if_true, if_false, reduceIte, updE, trimE_app, h3, Nat.reduceShiftRight, Nat.reduceMod, Nat.reduceEqDiff, frzV, frzD, List.getElem?_cons_zero, List.getElem?_cons_succ, true_and, and_true, Nat.zero_le, true_or, Nat.reduceAdd, List.length_append, List.length_cons, List.length_nil, Nat.le_refl, List.drop_zero, List.take_succ_cons, List.take_zero, List.mapM_cons, List.mapM_nil, mapM_frzD, Option.bind_eq_bind, Option.bind_some, Option.pure_def, Option.map_some, Option.getD_some, Bool.false_eq_true]; done)
    clear h1 h2 h3 h4
    rintro n e s ⟨i, rfl, hi, h1, h2, h3, h6, hacc⟩
    have hB := hacc.get (id := 0) rfl
    have hB1 := hacc.get (id := 1) rfl
    unfold xpO at hB
    unfold zeroD at hB1
    simp only [o] at hB
    rcases Nat.lt_or_ge i re.mn.toNat with hlt | hge
    · have hlt' : (i : Int) < re.mn := by omega
      have wi : IntKind.i64.wrap ((i : Int) + 1) = (i + 1 : Nat) := by rw [w64 _ (by omega)]; omega
      simp only [vsL, vsB, vsC, Nat.reduceShiftRight, Nat.reduceMod, Nat.reduceLT, Nat.reduceMul, Nat.reduceSub, Int.reduceToNat, Int.reduceNeg, Int.reduceLT, Int.reduceLE, Int.reduceEq, Nat.reduceEqDiff, Nat.reduceAdd, Nat.reduceLeDiff, reduceIte, reduceCtorEq, Nat.reduceBEq, tysA, i64, iD, bD, bV, h1, h2, h3, h6, hB, hlt', wi]
      refine ⟨by decide, hacc.append slTy24 rfl (by decide) (by decide) (by intro y hy; obtain ⟨z, _, rfl⟩ := List.mem_map.1 hy; exact Re.cells_len _) (by simp [Re.cells_len]) (by simp) (by simp only [List.length_map, List.length_replicate, List.length_cons, List.length_nil]; omega) (fun v' s' hacc' => ?_)⟩
      simp only [vsL, vsB, vsC, Nat.reduceShiftRight, Nat.reduceMod, Nat.reduceLT, Nat.reduceMul, Nat.reduceSub, Int.reduceToNat, Int.reduceNeg, Int.reduceLT, Int.reduceLE, Int.reduceEq, Nat.reduceEqDiff, Nat.reduceAdd, Nat.reduceLeDiff, reduceIte, reduceCtorEq, Nat.reduceBEq, tysA, i64, iD, bD, h1, h2, h3, h6, wi]
      refine ⟨re.mn.toNat - (i + 1), _, _, by omega, Cln.refl, i + 1, rfl, hlt, ?_, ?_, ?_, ?_, ?_⟩ <;> (try simp only [keepE_app, List.contains_cons, List.contains_nil, Nat.reduceBEq, Bool.or_false, Bool.false_or, Bool.or_true, Bool.true_or, updE, trimE_upd, trimE_trim, trimE_app, Nat.reduceShiftRight, Nat.reduceMod, Nat.reduceEqDiff, if_true, if_false, reduceIte])
      · exact h1
      · exact h2
      · exact h3
      · rw [List.replicate_succ', List.map_append]; exact hacc'
    have hie : i = re.mn.toNat := by omega
    subst hie
    have hmn : ((re.mn.toNat : Nat) : Int) = re.mn := by omega
    by_cases m1 : re.mx = -1
    · have htl : tailR re x = [rept x (-1) re.mode] := by rw [tailR, if_pos m1]
      rw [htl] at hR
      simp only [vsL, vsB, vsC, Nat.reduceShiftRight, Nat.reduceMod, Nat.reduceLT, Nat.reduceMul, Nat.reduceSub, Int.reduceToNat, Int.reduceNeg, Int.reduceLT, Int.reduceLE, Int.reduceEq, Nat.reduceEqDiff, Nat.reduceAdd, Nat.reduceLeDiff, reduceIte, reduceCtorEq, Nat.reduceBEq, tysA, i64, iD, bD, bV, h1, h2, h3, h6, hB, hmn, Int.lt_irrefl, m1]
      refine hacc.append slTy24 rfl (by decide) (by decide) (by intro y hy; obtain ⟨z, _, rfl⟩ := List.mem_map.1 hy; exact Re.cells_len _) (by simp) (by simp) (by simp only [List.length_map, List.length_replicate, List.length_cons, List.length_nil]; omega) (fun v' s' hacc' => ?_)
      have hcl : [[D.sc (Value.int IntKind.i64 4), D.sl [], D.sl [x.cells], D.sc (Value.int IntKind.i64 0), D.sc (Value.int IntKind.i64 (-1)), D.sc (Value.int IntKind.i64 re.mode), D.sc (Value.int IntKind.i64 0), D.sc (Value.bool false)]] = [rept x (-1) re.mode].map Re.cells := by
        rw [List.map_cons, Re.cells_eq (rept x (-1) re.mode)]; rfl
      rw [hcl, ← List.map_append] at hacc'
      simp only [vsL, vsB, vsC, Nat.reduceShiftRight, Nat.reduceMod, Nat.reduceLT, Nat.reduceMul, Nat.reduceSub, Int.reduceToNat, Int.reduceNeg, Int.reduceLT, Int.reduceLE, Int.reduceEq, Nat.reduceEqDiff, Nat.reduceAdd, Nat.reduceLeDiff, reduceIte, reduceCtorEq, Nat.reduceBEq, tysA, i64, iD, bD, bV, h1, h2, h3, h6]
      refine hacc'.give (refJoined_ok _) (refsV_reV _ _) ?_ (fun X => ?_)
      all_goals
        rw [hR]
        simp only [vsL, vsB, vsC, Nat.reduceShiftRight, Nat.reduceMod, Nat.reduceLT, Nat.reduceMul, Nat.reduceSub, Int.reduceToNat, Int.reduceNeg, Int.reduceLT, Int.reduceLE, Int.reduceEq, Nat.reduceEqDiff, Nat.reduceAdd, Nat.reduceLeDiff, reduceIte, reduceCtorEq, Nat.reduceBEq, tysA, i64, iD, bD, bV, h1, h2, h3, h6, xpO, zeroD, reV_eq R]
    have hle : re.mn ≤ re.mx := by omega
    rw [tailR_rest m1 hle] at hR
    obtain ⟨c, hc⟩ : ∃ c : Nat, (c : Int) = re.mx - re.mn := ⟨(re.mx - re.mn).toNat, by omega⟩
    rw [show (re.mx - re.mn).toNat = c by omega] at hR
    simp only [vsL, vsB, vsC, Nat.reduceShiftRight, Nat.reduceMod, Nat.reduceLT, Nat.reduceMul, Nat.reduceSub, Int.reduceToNat, Int.reduceNeg, Int.reduceLT, Int.reduceLE, Int.reduceEq, Nat.reduceEqDiff, Nat.reduceAdd, Nat.reduceLeDiff, reduceIte, reduceCtorEq, Nat.reduceBEq, tysA, i64, iD, bD, bV, h1, h2, h3, h6, hB, hmn, Int.lt_irrefl, m1]
    refine loop_rule (fun n e s' => ∃ j : Nat, n = c - j ∧ j ≤ c ∧ e 1 = .rf 0 0 0 0 ∧ e 2 = .rf 1 0 0 0 ∧ e 3 = .d (.sl [x.cells]) ∧ e 7 = .d (.sl ((restL re.mode x j).map Re.cells)) ∧ e 8 = i64 (re.mn + j) ∧ Acc [xpO re (.d (.sl [x.cells])), zeroD] 8 (e 5) s' ((List.replicate re.mn.toNat x).map Re.cells))
      ⟨_, _, _, Cln.freeze [] [7], 0, rfl, by omega, ?_, ?_, ?_, ?_, ?_, ?_⟩ ?_
    · simp [freezeE, killO, cleanV, updE, trimE_app, frzV, restL, i64, h1, h2, h3]
    · simp [freezeE, killO, cleanV, updE, trimE_app, frzV, restL, i64, h1, h2, h3]
    · simp [freezeE, killO, cleanV, updE, trimE_app, frzV, restL, i64, h1, h2, h3]
    · simp [freezeE, killO, cleanV, updE, trimE_app, frzV, restL, i64, h1, h2, h3]
    · simp [freezeE, killO, cleanV, updE, trimE_app, frzV, restL, i64, h1, h2, h3]
    · simpa [freezeE, killO, updE, trimE_app] using hacc
    clear h1 h2 h3 h6 hacc hB hB1 s e
    rintro n e s ⟨j, rfl, hj, h1, h2, h3, h7, h8, hacc⟩
    have hB := hacc.get (id := 0) rfl
    unfold xpO at hB
    simp only [o] at hB
    rcases Nat.lt_or_ge j c with hlt | hge
    · have hlt' : re.mn + (j : Int) < re.mx := by omega
      have wj : IntKind.i64.wrap (re.mn + (j : Int) + 1) = re.mn + (j + 1 : Nat) := by rw [w64 _ (by omega)]; omega
      simp only [vsL, vsB, vsC, appendWp, Nat.reduceShiftRight, Nat.reduceMod, Nat.reduceLT, Nat.reduceMul, Nat.reduceSub, Int.reduceToNat, Int.reduceNeg, Int.reduceLT, Int.reduceLE, Int.reduceEq, Nat.reduceEqDiff, Nat.reduceAdd, Nat.reduceLeDiff, reduceIte, reduceCtorEq, Nat.reduceBEq, tysA, i64, iD, bD, bV, h1, h2, h3, h7, h8, hB, hlt', wj]
      refine draw_c mix [] [] (by rfl) ?_
      simp only [vsL, vsB, vsC, appendWp, Nat.reduceShiftRight, Nat.reduceMod, Nat.reduceLT, Nat.reduceMul, Nat.reduceSub, Int.reduceToNat, Int.reduceNeg, Int.reduceLT, Int.reduceLE, Int.reduceEq, Nat.reduceEqDiff, Nat.reduceAdd, Nat.reduceLeDiff, reduceIte, reduceCtorEq, Nat.reduceBEq, tysA, i64, iD, bD, bV, h1, h2, h3, h7, h8, hB]
      have hst := restL_step re.mode x j
      have hjl : (restL re.mode x j).length ≤ 1 := by cases j <;> simp [restL]
      have hxc : x.cells :: (restL re.mode x j).map Re.cells = (x :: restL re.mode x j).map Re.cells := rfl
      rw [hxc]
      refine ⟨by decide, fun y hy => ?_, ⟨by omega, fun y hy => ?_⟩, ?_⟩
      · obtain ⟨z, hz, rfl⟩ := List.mem_map.1 hy
        obtain ⟨r, _, rfl⟩ := List.mem_map.1 hz
        simp [Re.cells_len]
      · rw [List.mem_singleton.1 hy]; exact Re.cells_len _
      refine callC_pure (refJoined_ok (x :: restL re.mode x j)) rfl (refsV_reV _ _) ?_
      simp only [vsL, vsB, vsC, appendWp, Nat.reduceShiftRight, Nat.reduceMod, Nat.reduceLT, Nat.reduceMul, Nat.reduceSub, Int.reduceToNat, Int.reduceNeg, Int.reduceLT, Int.reduceLE, Int.reduceEq, Nat.reduceEqDiff, Nat.reduceAdd, Nat.reduceLeDiff, reduceIte, reduceCtorEq, Nat.reduceBEq, tysA, i64, iD, bD, bV, h1, h2, h3, h7, h8, hB, wj]
      have hcl : [[D.sc (Value.int IntKind.i64 4), D.sl [], D.sl [(joinR (x :: restL re.mode x j)).cells], D.sc (Value.int IntKind.i64 0), D.sc (Value.int IntKind.i64 1), D.sc (Value.int IntKind.i64 re.mode), D.sc (Value.int IntKind.i64 0), D.sc (Value.bool false)]] = (restL re.mode x (j + 1)).map Re.cells := by
        rw [hst, List.map_cons, Re.cells_eq (rept _ 1 re.mode)]; rfl
      refine ⟨c - (j + 1), _, _, by omega, Cln.freeze [] [7], j + 1, rfl, hlt, ?_, ?_, ?_, ?_, ?_, ?_⟩
      · simp [freezeE, killO, cleanV, updE, trimE_app, frzV, restL, i64, h1, h2, h3]
      · simp [freezeE, killO, cleanV, updE, trimE_app, frzV, restL, i64, h1, h2, h3]
      · simp [freezeE, killO, cleanV, updE, trimE_app, frzV, restL, i64, h1, h2, h3]
      · rw [← hcl]; rfl
      · simp [freezeE, killO, cleanV, updE, trimE_app, frzV, restL, i64, h1, h2, h3]
      · simpa [freezeE, killO, updE, trimE_app] using hacc
    have hje : j = c := by omega
    subst hje
    have hlt' : ¬ re.mn + (j : Int) < re.mx := by omega
    have hjl : (restL re.mode x j).length ≤ 1 := by cases j <;> simp [restL]
    simp only [vsL, vsB, vsC, Nat.reduceShiftRight, Nat.reduceMod, Nat.reduceLT, Nat.reduceMul, Nat.reduceSub, Int.reduceToNat, Int.reduceNeg, Int.reduceLT, Int.reduceLE, Int.reduceEq, Nat.reduceEqDiff, Nat.reduceAdd, Nat.reduceLeDiff, reduceIte, reduceCtorEq, Nat.reduceBEq, tysA, i64, iD, bD, bV, h1, h2, h3, h7, h8, hB, hlt']
    refine hacc.appendD slTy24 rfl (by decide) (by decide) (by intro y hy; obtain ⟨z, _, rfl⟩ := List.mem_map.1 hy; exact Re.cells_len _) (by intro y hy; obtain ⟨z, _, rfl⟩ := List.mem_map.1 hy; exact Re.cells_len _) (by simp only [List.length_map, List.length_replicate]; omega) (fun v' s' hacc' => ?_)
    rw [← List.map_append] at hacc'
    simp only [vsL, vsB, vsC, Nat.reduceShiftRight, Nat.reduceMod, Nat.reduceLT, Nat.reduceMul, Nat.reduceSub, Int.reduceToNat, Int.reduceNeg, Int.reduceLT, Int.reduceLE, Int.reduceEq, Nat.reduceEqDiff, Nat.reduceAdd, Nat.reduceLeDiff, reduceIte, reduceCtorEq, Nat.reduceBEq, tysA, i64, iD, bD, bV, h1, h2, h3, h7, h8]
    refine hacc'.give (refJoined_ok _) (refsV_reV _ _) ?_ (fun X => ?_)
    all_goals
      rw [hR]
      simp only [vsL, vsB, vsC, Nat.reduceShiftRight, Nat.reduceMod, Nat.reduceLT, Nat.reduceMul, Nat.reduceSub, Int.reduceToNat, Int.reduceNeg, Int.reduceLT, Int.reduceLE, Int.reduceEq, Nat.reduceEqDiff, Nat.reduceAdd, Nat.reduceLeDiff, reduceIte, reduceCtorEq, Nat.reduceBEq, tysA, i64, iD, bD, bV, h1, h2, h3, h7, h8, xpO, zeroD, reV_eq R]

end Go.Proofs.Ytafbdphblilenaa
