/- Part of the proof: the program logic, or what some functions compute (F64). -/
import Derived.Test.YtafbdphblilenaaC25
import Derived.Test.YtafbdphblilenaaC10
set_option linter.unusedSimpArgs false
set_option linter.unusedVariables false
set_option linter.unusedSimpArgs false
set_option linter.unusedVariables false
namespace Go.Proofs.Ytafbdphblilenaa
open Go.VL

/-! ### AstCompares -/

set_option maxRecDepth 100000 in
set_option maxHeartbeats 16000000 in
theorem astComparesL_ok (l : List Int) (hl : ∀ x ∈ l, I64 x) (m : List Int) (hm : ∀ x ∈ m, I64 x) (tat how by' : Int) (ha : I64 tat) (hh : I64 how) (hb : I64 by') : PureOK Try.prog 7 [.d (intsD l), .d (intsD m), i64 tat, i64 how, i64 by'] (bV true) := by
  obtain ⟨p2, p3, s2, s3, hpairs⟩ := pairsK_ok l hl tat how by' ha hh hb
  have s1 := pat_small l 127 30 hl (by omega) (by omega)
  have s4 := pat_small m 127 9 hm (by omega) (by omega)
  have hp4 := pattern_ok m 127 9 hm (by omega) (by omega)
  generalize patOf l 127 30 = p1 at *
  generalize patOf m 127 9 = p4 at *
  rw [patV_C] at hp4
  have hall := all_ok
  have hlv := lives_ok
  obtain ⟨ps, hps⟩ : ∃ ps : List Pat, ps = [p1, p2, p3, p4] := ⟨_, rfl⟩
  have hpl : ps.length = 4 := by rw [hps]; rfl
  have hsm : ∀ p ∈ ps, p.small 2000 := by
    rw [hps]
    intro p hp
    simp only [List.mem_cons, List.not_mem_nil, or_false] at hp
    rcases hp with rfl | rfl | rfl | rfl
    · exact small_every_le (by omega) s1
    · exact small_every_le (by omega) s2
    · exact small_every_le (by omega) s3
    · exact small_every_le (by omega) s4
  simp only [i64] at hpairs hp4 hall
  refine fn_ok Try.func7 rfl Try.ntmps7 Try.results7 rfl 0 15391 (by simp) (by simp) ?_
  simp only [vsL, vsB, vsC, appendWp, Nat.reduceShiftRight, Nat.reduceMod, Nat.reduceLT, Nat.reduceMul, Nat.reduceSub, Int.reduceToNat, Int.reduceNeg, Int.reduceLT, Int.reduceLE, Int.reduceEq, Nat.reduceEqDiff, Nat.reduceAdd, Nat.reduceLeDiff, reduceIte, reduceCtorEq, Nat.reduceBEq, tysA, i64]
  refine call_pure hpairs rfl rfl ?_
  simp only [vsL, vsB, vsC, appendWp, Nat.reduceShiftRight, Nat.reduceMod, Nat.reduceLT, Nat.reduceMul, Nat.reduceSub, Int.reduceToNat, Int.reduceNeg, Int.reduceLT, Int.reduceLE, Int.reduceEq, Nat.reduceEqDiff, Nat.reduceAdd, Nat.reduceLeDiff, reduceIte, reduceCtorEq, Nat.reduceBEq, tysA, i64]
  refine call_pure hall rfl rfl ?_
  simp only [vsL, vsB, vsC, appendWp, Nat.reduceShiftRight, Nat.reduceMod, Nat.reduceLT, Nat.reduceMul, Nat.reduceSub, Int.reduceToNat, Int.reduceNeg, Int.reduceLT, Int.reduceLE, Int.reduceEq, Nat.reduceEqDiff, Nat.reduceAdd, Nat.reduceLeDiff, reduceIte, reduceCtorEq, Nat.reduceBEq, tysA, i64]
  refine call_pure hp4 rfl (by simp only [refsV, refsV_go_d]) ?_
  simp only [vsL, vsB, vsC, appendWp, Nat.reduceShiftRight, Nat.reduceMod, Nat.reduceLT, Nat.reduceMul, Nat.reduceSub, Int.reduceToNat, Int.reduceNeg, Int.reduceLT, Int.reduceLE, Int.reduceEq, Nat.reduceEqDiff, Nat.reduceAdd, Nat.reduceLeDiff, reduceIte, reduceCtorEq, Nat.reduceBEq, tysA, i64, patC_len, take_patC, List.length_map]
  refine ⟨by simp [patC_len], by simp [patC_len], ?_⟩
  refine loop_rule (fun n e s => ∃ i : Nat, n = ps.length - i ∧ i ≤ ps.length ∧ e 11 = .d (.sl (ps.map patC)) ∧ e 12 = i64 i ∧ s = [])
    ⟨_, _, _, Cln.drop 0 (Nat.le_refl _) [11, 12], 0, rfl, by omega, ?_, ?_, rfl⟩ ?_
  · have hp3 : ∀ (n lim : Nat) (s : List VL.Obj) (p : Pat), ((patC p).map V.d).mapM (frzD n lim s) = some (patC p) := fun n lim s p => mapM_frzD n lim s (patC p)
    rw [hps]
    simp only [cleanE, cleanV, List.contains_cons, List.contains_nil, Nat.reduceBEq, Bool.or_false, Bool.false_or, Bool.true_or, Bool.or_true, if_true, if_false, reduceIte, updE, Nat.reduceEqDiff, frzV, frzD, List.getElem?_cons_zero, List.getElem?_cons_succ,
      true_and, and_true, Nat.zero_le, true_or, Nat.reduceAdd, List.length_append, List.length_cons, List.length_nil, Nat.le_refl, List.drop_zero, List.map_cons, List.map_nil, List.cons_append, List.nil_append, List.take_succ_cons, List.take_zero, List.mapM_cons, List.mapM_nil,
      hp3, Option.bind_eq_bind, Option.bind_some, Option.pure_def, Option.map_some, Option.getD_some]
  · simp [cleanE, cleanV, updE, frzV, i64]
  clear hps hpairs hp4 hall
  have hfine : ∀ p ∈ ps, p.re.fine = true := fun p hp => small_fine (by omega) p.re (hsm p hp).ev
  rintro n e s ⟨i, rfl, hi, h11, h12, rfl⟩
  rcases Nat.lt_or_ge i ps.length with hlti | hge
  rotate_left
  · have hie : i = ps.length := by omega
    subst hie
    simp only [vsL, vsB, vsC, appendWp, Nat.reduceShiftRight, Nat.reduceMod, Nat.reduceLT, Nat.reduceMul, Nat.reduceSub, Int.reduceToNat, Int.reduceNeg, Int.reduceLT, Int.reduceLE, Int.reduceEq, Nat.reduceEqDiff, Nat.reduceAdd, Nat.reduceLeDiff, reduceIte, reduceCtorEq, Nat.reduceBEq, tysA, i64, h11, h12, Nat.lt_irrefl]
    refine call_pure hlv rfl rfl ?_
    simp only [vsL, vsB, vsC, appendWp, Nat.reduceShiftRight, Nat.reduceMod, Nat.reduceLT, Nat.reduceMul, Nat.reduceSub, Int.reduceToNat, Int.reduceNeg, Int.reduceLT, Int.reduceLE, Int.reduceEq, Nat.reduceEqDiff, Nat.reduceAdd, Nat.reduceLeDiff, reduceIte, reduceCtorEq, Nat.reduceBEq, tysA, i64, bV]
  obtain ⟨pi, hpi⟩ : ∃ p, ps[i]? = some p := ⟨_, List.getElem?_eq_getElem hlti⟩
  have hmi := List.mem_of_getElem? hpi
  have hn1 := numbers_ok pi.re (hfine pi hmi) (by have := (hsm pi hmi).sz; omega)
  have hn2 := refNumbers_ok pi.re (by have := (hsm pi hmi).sz; omega)
  have hn3 := sameInts_ok pi.re.numsR pi.re.numsR (by have := pi.re.numsR_len; have := (hsm pi hmi).sz; omega)
  rw [decide_eq_true rfl] at hn3
  simp only [bV] at hn3
  generalize pi.re.numsR = ns at *
  simp only [vsL, vsB, vsC, appendWp, Nat.reduceShiftRight, Nat.reduceMod, Nat.reduceLT, Nat.reduceMul, Nat.reduceSub, Int.reduceToNat, Int.reduceNeg, Int.reduceLT, Int.reduceLE, Int.reduceEq, Nat.reduceEqDiff, Nat.reduceAdd, Nat.reduceLeDiff, reduceIte, reduceCtorEq, Nat.reduceBEq, tysA, i64, h11, h12, hlti]
  refine loop_rule (fun n e s => ∃ k : Nat, n = ps.length - k ∧ k ≤ ps.length ∧ e 11 = .d (.sl (ps.map patC)) ∧ e 12 = i64 i ∧ e 13 = i64 k ∧ s = [])
    ⟨_, _, _, Cln.refl, 0, rfl, by omega, ?_, ?_, rfl, rfl⟩ ?_ <;> (try simp only [keepE_app, List.contains_cons, List.contains_nil, Nat.reduceBEq, Bool.or_false, Bool.false_or, Bool.or_true, Bool.true_or, updE, trimE_upd, trimE_trim, trimE_app, Nat.reduceShiftRight, Nat.reduceMod, Nat.reduceEqDiff, if_true, if_false, reduceIte])
  · exact h11
  · exact h12
  clear h11 h12
  rintro n e s ⟨k, rfl, hk, h11, h12, h13, rfl⟩
  rcases Nat.lt_or_ge k ps.length with hltk | hge
  rotate_left
  · have hke : k = ps.length := by omega
    subst hke
    simp only [vsL, vsB, vsC, appendWp, Nat.reduceShiftRight, Nat.reduceMod, Nat.reduceLT, Nat.reduceMul, Nat.reduceSub, Int.reduceToNat, Int.reduceNeg, Int.reduceLT, Int.reduceLE, Int.reduceEq, Nat.reduceEqDiff, Nat.reduceAdd, Nat.reduceLeDiff, reduceIte, reduceCtorEq, Nat.reduceBEq, tysA, i64, h11, h12, h13, Nat.lt_irrefl]
    refine draw_c mix [] [] (by rfl) ?_
    simp only [vsL, vsB, vsC, appendWp, Nat.reduceShiftRight, Nat.reduceMod, Nat.reduceLT, Nat.reduceMul, Nat.reduceSub, Int.reduceToNat, Int.reduceNeg, Int.reduceLT, Int.reduceLE, Int.reduceEq, Nat.reduceEqDiff, Nat.reduceAdd, Nat.reduceLeDiff, reduceIte, reduceCtorEq, Nat.reduceBEq, tysA, i64, h11, h12, h13, hlti, hpi, patC_len, take8_patC]
    refine callC_pure hn1 (by simp [refsV, refsV.go, refsV_reV]) rfl ?_
    simp only [vsL, vsB, vsC, appendWp, Nat.reduceShiftRight, Nat.reduceMod, Nat.reduceLT, Nat.reduceMul, Nat.reduceSub, Int.reduceToNat, Int.reduceNeg, Int.reduceLT, Int.reduceLE, Int.reduceEq, Nat.reduceEqDiff, Nat.reduceAdd, Nat.reduceLeDiff, reduceIte, reduceCtorEq, Nat.reduceBEq, tysA, i64, h11, h12, h13, hlti, hpi, patC_len, take8_patC]
    refine callC_pure hn2 (by simp [refsV, refsV.go, refsV_reV]) rfl ?_
    simp only [vsL, vsB, vsC, appendWp, Nat.reduceShiftRight, Nat.reduceMod, Nat.reduceLT, Nat.reduceMul, Nat.reduceSub, Int.reduceToNat, Int.reduceNeg, Int.reduceLT, Int.reduceLE, Int.reduceEq, Nat.reduceEqDiff, Nat.reduceAdd, Nat.reduceLeDiff, reduceIte, reduceCtorEq, Nat.reduceBEq, tysA, i64, h11, h12, h13]
    refine callC_pure hn3 rfl rfl ?_
    simp only [vsL, vsB, vsC, appendWp, Nat.reduceShiftRight, Nat.reduceMod, Nat.reduceLT, Nat.reduceMul, Nat.reduceSub, Int.reduceToNat, Int.reduceNeg, Int.reduceLT, Int.reduceLE, Int.reduceEq, Nat.reduceEqDiff, Nat.reduceAdd, Nat.reduceLeDiff, reduceIte, reduceCtorEq, Nat.reduceBEq, tysA, i64, h11, h12, h13]
    refine ⟨ps.length - (i + 1), _, _, by omega, Cln.refl, i + 1, rfl, hlti, ?_, ?_, rfl⟩ <;> (try simp only [keepE_app, List.contains_cons, List.contains_nil, Nat.reduceBEq, Bool.or_false, Bool.false_or, Bool.or_true, Bool.true_or, updE, trimE_upd, trimE_trim, trimE_app, Nat.reduceShiftRight, Nat.reduceMod, Nat.reduceEqDiff, if_true, if_false, reduceIte])
    · exact h11
    · rw [w64 _ (by omega)]; rfl
  obtain ⟨pk, hpk⟩ : ∃ p, ps[k]? = some p := ⟨_, List.getElem?_eq_getElem hltk⟩
  have hmk := List.mem_of_getElem? hpk
  have kc := compare_ok pi.re pk.re (hfine pi hmi) (hfine pk hmk)
  have kc2 := refCompare_ok pi.re (hfine pi hmi) pk.re (hfine pk hmk)
  simp only [i64] at kc kc2
  generalize pi.re.cmp pk.re = c at *
  simp only [vsL, vsB, vsC, appendWp, Nat.reduceShiftRight, Nat.reduceMod, Nat.reduceLT, Nat.reduceMul, Nat.reduceSub, Int.reduceToNat, Int.reduceNeg, Int.reduceLT, Int.reduceLE, Int.reduceEq, Nat.reduceEqDiff, Nat.reduceAdd, Nat.reduceLeDiff, reduceIte, reduceCtorEq, Nat.reduceBEq, tysA, i64, h11, h12, h13, hltk]
  refine draw_c mix [] [] (by rfl) ?_
  simp only [vsL, vsB, vsC, appendWp, Nat.reduceShiftRight, Nat.reduceMod, Nat.reduceLT, Nat.reduceMul, Nat.reduceSub, Int.reduceToNat, Int.reduceNeg, Int.reduceLT, Int.reduceLE, Int.reduceEq, Nat.reduceEqDiff, Nat.reduceAdd, Nat.reduceLeDiff, reduceIte, reduceCtorEq, Nat.reduceBEq, tysA, i64, h11, h12, h13, hlti, hltk, hpi, hpk, patC_len, take8_patC]
  refine callC_pure kc (by simp [refsV, refsV.go, refsV_reV]) rfl ?_
  simp only [vsL, vsB, vsC, appendWp, Nat.reduceShiftRight, Nat.reduceMod, Nat.reduceLT, Nat.reduceMul, Nat.reduceSub, Int.reduceToNat, Int.reduceNeg, Int.reduceLT, Int.reduceLE, Int.reduceEq, Nat.reduceEqDiff, Nat.reduceAdd, Nat.reduceLeDiff, reduceIte, reduceCtorEq, Nat.reduceBEq, tysA, i64, h11, h12, h13, hlti, hltk, hpi, hpk, patC_len, take8_patC]
  refine callC_pure kc2 (by simp [refsV, refsV.go, refsV_reV]) rfl ?_
  simp only [vsL, vsB, vsC, appendWp, Nat.reduceShiftRight, Nat.reduceMod, Nat.reduceLT, Nat.reduceMul, Nat.reduceSub, Int.reduceToNat, Int.reduceNeg, Int.reduceLT, Int.reduceLE, Int.reduceEq, Nat.reduceEqDiff, Nat.reduceAdd, Nat.reduceLeDiff, reduceIte, reduceCtorEq, Nat.reduceBEq, tysA, i64, h11, h12, h13, beq_self_eq_true]
  refine ⟨ps.length - (k + 1), _, _, by omega, Cln.refl, k + 1, rfl, hltk, ?_, ?_, ?_, rfl⟩ <;> (try simp only [keepE_app, List.contains_cons, List.contains_nil, Nat.reduceBEq, Bool.or_false, Bool.false_or, Bool.or_true, Bool.true_or, updE, trimE_upd, trimE_trim, trimE_app, Nat.reduceShiftRight, Nat.reduceMod, Nat.reduceEqDiff, if_true, if_false, reduceIte])
  · exact h11
  · exact h12
  · rw [w64 _ (by omega)]; rfl

end Go.Proofs.Ytafbdphblilenaa
