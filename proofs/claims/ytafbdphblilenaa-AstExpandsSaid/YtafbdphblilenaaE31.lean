/- Part of the proof: the program logic, or what some functions compute (F70). -/
import Derived.Test.YtafbdphblilenaaE30
import Derived.Test.YtafbdphblilenaaE28
import Derived.Test.YtafbdphblilenaaE26
import Derived.Test.YtafbdphblilenaaE27
set_option linter.unusedSimpArgs false
set_option linter.unusedVariables false
set_option linter.unusedSimpArgs false
set_option linter.unusedVariables false
namespace Go.Proofs.Ytafbdphblilenaa
open Go.VL

/-! ### AstExpands -/

theorem tquo_I64 {n : Int} (k : Int) (hk : 1 ≤ k) (h : I64 n) : I64 (n.tdiv k) := by
  unfold I64 at *
  rcases Int.le_total 0 n with h0 | h0
  · rw [Int.tdiv_eq_ediv_of_nonneg h0]
    have := Int.ediv_le_self k h0
    have := Int.ediv_nonneg h0 (show 0 ≤ k by omega)
    omega
  · have e : n.tdiv k = -((-n).tdiv k) := by rw [Int.neg_tdiv, Int.neg_neg]
    have h0' : 0 ≤ -n := by omega
    rw [e, Int.tdiv_eq_ediv_of_nonneg h0']
    have := Int.ediv_le_self k h0'
    have := Int.ediv_nonneg h0' (show 0 ≤ k by omega)
    omega

set_option maxRecDepth 100000 in
set_option maxHeartbeats 16000000 in
theorem astExpandsL_ok (l : List Int) (hl : ∀ x ∈ l, I64 x) (uses tat by' : Int) (hu : I64 uses) (ha : I64 tat) (hb : I64 by') : PureOK Try.prog 6 [.d (intsD l), i64 uses, i64 tat, i64 by'] (bV true) := by
  have har := around_ok uses 128 (by omega) hu
  have hp1 := pattern_ok l (around uses 128) 20 hl (by omega) (by omega)
  have s1 := pat_small l (around uses 128) 20 hl (by omega) (by omega)
  generalize patOf l (around uses 128) 20 = p1 at *
  have e4 : I64 4 := by unfold I64; omega
  have e3 : I64 3 := by unfold I64; omega
  obtain ⟨pa, sa, ka⟩ := spoilt_ok 256 (by omega) p1 s1 tat 4 by' ha e4 hb
  obtain ⟨p2, s2, k2⟩ := spoilt_ok 513 (by omega) pa sa tat 3 (by'.tdiv 7) ha e3 (tquo_I64 7 (by omega) hb)
  obtain ⟨p3, s3, k3⟩ := spoilt_ok 1027 (by omega) p2 s2 (tat.tdiv 3) 4 by' (tquo_I64 3 (by omega) ha) e4 hb
  have w1 : IntKind.i64.wrap (by'.tdiv 7) = by'.tdiv 7 := w64 _ (tquo_I64 7 (by omega) hb)
  have w2 : IntKind.i64.wrap (tat.tdiv 3) = tat.tdiv 3 := w64 _ (tquo_I64 3 (by omega) ha)
  simp only [patV_C] at hp1 ka k2 k3
  obtain ⟨ps, hps⟩ : ∃ ps : List Pat, ps = [p1, p2, p3] := ⟨_, rfl⟩
  have hpl : ps.length = 3 := by rw [hps]; rfl
  have hsm : ∀ p ∈ ps, p.small 4000 := by
    rw [hps]
    intro p hp
    simp only [List.mem_cons, List.not_mem_nil, or_false] at hp
    rcases hp with rfl | rfl | rfl
    · exact small_every_le (by omega) s1
    · exact small_every_le (by omega) s2
    · exact small_every_le (by omega) s3
  have hlv := lives_ok
  simp only [i64] at har hp1 ka k2 k3
  refine fn_ok Try.func6 rfl Try.ntmps6 Try.results6 rfl 0 524047 (by simp) (by simp) ?_
  simp only [vsL, vsB, vsC, appendWp, Nat.reduceShiftRight, Nat.reduceMod, Nat.reduceLT, Nat.reduceMul, Nat.reduceSub, Int.reduceToNat, Int.reduceNeg, Int.reduceLT, Int.reduceLE, Int.reduceEq, Nat.reduceEqDiff, Nat.reduceAdd, Nat.reduceLeDiff, reduceIte, reduceCtorEq, Nat.reduceBEq, tysA, i64]
  refine call_pure har rfl rfl ?_
  simp only [vsL, vsB, vsC, appendWp, Nat.reduceShiftRight, Nat.reduceMod, Nat.reduceLT, Nat.reduceMul, Nat.reduceSub, Int.reduceToNat, Int.reduceNeg, Int.reduceLT, Int.reduceLE, Int.reduceEq, Nat.reduceEqDiff, Nat.reduceAdd, Nat.reduceLeDiff, reduceIte, reduceCtorEq, Nat.reduceBEq, tysA, i64]
  refine call_pure hp1 rfl (by simp only [refsV, refsV_go_d]) ?_
  simp only [vsL, vsB, vsC, appendWp, Nat.reduceShiftRight, Nat.reduceMod, Nat.reduceLT, Nat.reduceMul, Nat.reduceSub, Int.reduceToNat, Int.reduceNeg, Int.reduceLT, Int.reduceLE, Int.reduceEq, Nat.reduceEqDiff, Nat.reduceAdd, Nat.reduceLeDiff, reduceIte, reduceCtorEq, Nat.reduceBEq, tysA, i64, patC_len, take_patC, List.length_map]
  have rp : ∀ p : Pat, refsV.go 0 [.ag ((patC p).map V.d)] = true := fun p => by simp only [refsV.go, refsV, refsV_go_d, Bool.and_self]
  refine call_pure ka (by simp only [refsV.go, refsV, refsV_go_d, Bool.and_self]) (by simp only [refsV, refsV_go_d]) ?_
  simp only [vsL, vsB, vsC, appendWp, Nat.reduceShiftRight, Nat.reduceMod, Nat.reduceLT, Nat.reduceMul, Nat.reduceSub, Int.reduceToNat, Int.reduceNeg, Int.reduceLT, Int.reduceLE, Int.reduceEq, Nat.reduceEqDiff, Nat.reduceAdd, Nat.reduceLeDiff, reduceIte, reduceCtorEq, Nat.reduceBEq, tysA, i64, patC_len, take_patC, List.length_map, w1]
  refine call_pure k2 (by simp only [refsV.go, refsV, refsV_go_d, Bool.and_self]) (by simp only [refsV, refsV_go_d]) ?_
  simp only [vsL, vsB, vsC, appendWp, Nat.reduceShiftRight, Nat.reduceMod, Nat.reduceLT, Nat.reduceMul, Nat.reduceSub, Int.reduceToNat, Int.reduceNeg, Int.reduceLT, Int.reduceLE, Int.reduceEq, Nat.reduceEqDiff, Nat.reduceAdd, Nat.reduceLeDiff, reduceIte, reduceCtorEq, Nat.reduceBEq, tysA, i64, patC_len, take_patC, List.length_map, w1]
  refine draw_c mix [] [] (by rfl) ?_
  simp only [vsL, vsB, vsC, appendWp, Nat.reduceShiftRight, Nat.reduceMod, Nat.reduceLT, Nat.reduceMul, Nat.reduceSub, Int.reduceToNat, Int.reduceNeg, Int.reduceLT, Int.reduceLE, Int.reduceEq, Nat.reduceEqDiff, Nat.reduceAdd, Nat.reduceLeDiff, reduceIte, reduceCtorEq, Nat.reduceBEq, tysA, i64, patC_len, take_patC, List.length_map, w2]
  refine callC_pure k3 (by simp only [refsV.go, refsV, refsV_go_d, Bool.and_self]) (by simp only [refsV, refsV_go_d]) ?_
  simp only [vsL, vsB, vsC, appendWp, Nat.reduceShiftRight, Nat.reduceMod, Nat.reduceLT, Nat.reduceMul, Nat.reduceSub, Int.reduceToNat, Int.reduceNeg, Int.reduceLT, Int.reduceLE, Int.reduceEq, Nat.reduceEqDiff, Nat.reduceAdd, Nat.reduceLeDiff, reduceIte, reduceCtorEq, Nat.reduceBEq, tysA, i64, patC_len, take_patC, List.length_map]
  refine loop_rule (fun n e s => ∃ i : Nat, n = ps.length - i ∧ i ≤ ps.length ∧ e 11 = .d (.sl (ps.map patC)) ∧ e 12 = i64 i ∧ s = [])
    ⟨_, _, _, Cln.drop 0 (Nat.le_refl _) [11, 12], 0, rfl, by omega, ?_, ?_, rfl⟩ ?_
  · rw [hps]; simp [cleanE, cleanV, updE, frzV, i64]
  · simp [cleanE, cleanV, updE, frzV, i64]
  clear hps ka k2 k3 hp1 har rp
  have hfine : ∀ p ∈ ps, p.re.fine = true := fun p hp => small_fine (by omega) p.re (hsm p hp).ev
  rintro n e s ⟨i, rfl, hi, h11, h12, rfl⟩
  rcases Nat.lt_or_ge i ps.length with hlti | hge
  rotate_left
  · have hie : i = ps.length := by omega
    subst hie
    simp only [vsL, vsB, vsC, appendWp, Nat.reduceShiftRight, Nat.reduceMod, Nat.reduceLT, Nat.reduceMul, Nat.reduceSub, Int.reduceToNat, Int.reduceNeg, Int.reduceLT, Int.reduceLE, Int.reduceEq, Nat.reduceEqDiff, Nat.reduceAdd, Nat.reduceLeDiff, reduceIte, reduceCtorEq, Nat.reduceBEq, tysA, i64, h11, h12, Nat.lt_irrefl]
    refine call_pure hlv rfl rfl ?_
    simp only [vsL, vsB, vsC, appendWp, Nat.reduceShiftRight, Nat.reduceMod, Nat.reduceLT, Nat.reduceMul, Nat.reduceSub, Int.reduceToNat, Int.reduceNeg, Int.reduceLT, Int.reduceLE, Int.reduceEq, Nat.reduceEqDiff, Nat.reduceAdd, Nat.reduceLeDiff, reduceIte, reduceCtorEq, Nat.reduceBEq, tysA, i64, bV]
  obtain ⟨p, hp⟩ : ∃ p, ps[i]? = some p := ⟨_, List.getElem?_eq_getElem hlti⟩
  have hm := List.mem_of_getElem? hp
  have hf := hfine p hm
  have hsz := (hsm p hm).sz
  have hev := (hsm p hm).ev
  have hval := refValid_ok p hf (by omega)
  rw [patV_C] at hval
  simp only [i64] at hval
  simp only [vsL, vsB, vsC, appendWp, Nat.reduceShiftRight, Nat.reduceMod, Nat.reduceLT, Nat.reduceMul, Nat.reduceSub, Int.reduceToNat, Int.reduceNeg, Int.reduceLT, Int.reduceLE, Int.reduceEq, Nat.reduceEqDiff, Nat.reduceAdd, Nat.reduceLeDiff, reduceIte, reduceCtorEq, Nat.reduceBEq, tysA, i64, h11, h12, hlti, hp, patC_len, take8_patC, take_patC, List.length_map]
  refine call_pure hval (by simp only [refsV.go, refsV, refsV_go_d, Bool.and_self]) rfl ?_
  by_cases hv : validR p = 0
  rotate_left
  · simp only [vsL, vsB, vsC, appendWp, Nat.reduceShiftRight, Nat.reduceMod, Nat.reduceLT, Nat.reduceMul, Nat.reduceSub, Int.reduceToNat, Int.reduceNeg, Int.reduceLT, Int.reduceLE, Int.reduceEq, Nat.reduceEqDiff, Nat.reduceAdd, Nat.reduceLeDiff, reduceIte, reduceCtorEq, Nat.reduceBEq, tysA, i64, h11, h12, hv]
    refine ⟨ps.length - (i + 1), _, _, by omega, Cln.cut 0 (by omega) rfl rfl [11, 12] ?_, i + 1, rfl, hlti, ?_, ?_, rfl⟩ <;> (try simp only [keepE_app, List.contains_cons, List.contains_nil, Nat.reduceBEq, Bool.or_false, Bool.false_or, Bool.or_true, Bool.true_or, updE, trimE_upd, trimE_trim, trimE_app, Nat.reduceShiftRight, Nat.reduceMod, Nat.reduceEqDiff, if_true, if_false, reduceIte])
    · simp [updE, trimE_app, refsV, h11, h12, i64]
    · exact h11
    · rw [w64 _ (by omega)]; rfl
  have hvb := valid_val hv
  generalize p.re = re at *
  have hq := exq_val (c := 4000) (by omega) re hev hvb
  have cx := expand_ok re hq
  have cr := refExpands_ok re (by omega) hvb
  have cl := refLarge_ok re (by omega) hvb
  have cd := refExpanded_ok re (by omega) hvb
  have c0 := refCompare_ok zeroR (by rfl) zeroR (by rfl)
  rw [cmp_self] at c0
  have rtu : ∀ (x : Re) (n : Int), refsV 0 (.tu [reV x, .d (.sc (.int .i64 n))]) = true := fun x n => by simp [refsV, refsV.go, refsV_reV]
  have r1 : ∀ x : Re, refsV.go 0 [reV x] = true := fun x => by simp [refsV, refsV.go, refsV_reV]
  have r2 : ∀ x y : Re, refsV.go 0 [reV x, reV y] = true := fun x y => by simp [refsV, refsV.go, refsV_reV]
  have hz0 : V.ag [V.d (.sc (.int .i64 0)), V.fu [], V.fu [], V.d (.sc (.int .i64 0)), V.d (.sc (.int .i64 0)), V.d (.sc (.int .i64 0)), V.d (.sc (.int .i64 0)), V.d (.sc (.bool false))] = V.ag [V.d (.sc (.int .i64 0)), V.fu [], V.fu [], V.d (.sc (.int .i64 0)), V.d (.sc (.int .i64 0)), V.d (.sc (.int .i64 0)), V.d (.sc (.int .i64 0)), V.d (.sc (.bool false))] := rfl
  simp only [i64, bV] at cx cr cl c0
  simp only [vsL, vsB, vsC, appendWp, Nat.reduceShiftRight, Nat.reduceMod, Nat.reduceLT, Nat.reduceMul, Nat.reduceSub, Int.reduceToNat, Int.reduceNeg, Int.reduceLT, Int.reduceLE, Int.reduceEq, Nat.reduceEqDiff, Nat.reduceAdd, Nat.reduceLeDiff, reduceIte, reduceCtorEq, Nat.reduceBEq, tysA, i64, h11, h12, hv]
  refine call_pure cx (r1 _) (rtu _ _) ?_
  cases hex : re.exa with
  | false =>
    rw [hex] at cr
    have hE : expandR re = (zeroR, 10) := by rw [expandR, if_pos hex]
    rw [hE]
    simp only [vsL, vsB, vsC, appendWp, Nat.reduceShiftRight, Nat.reduceMod, Nat.reduceLT, Nat.reduceMul, Nat.reduceSub, Int.reduceToNat, Int.reduceNeg, Int.reduceLT, Int.reduceLE, Int.reduceEq, Nat.reduceEqDiff, Nat.reduceAdd, Nat.reduceLeDiff, reduceIte, reduceCtorEq, Nat.reduceBEq, tysA, i64, h11, h12]
    refine call_pure cr (r1 _) rfl ?_
    simp only [vsL, vsB, vsC, appendWp, Nat.reduceShiftRight, Nat.reduceMod, Nat.reduceLT, Nat.reduceMul, Nat.reduceSub, Int.reduceToNat, Int.reduceNeg, Int.reduceLT, Int.reduceLE, Int.reduceEq, Nat.reduceEqDiff, Nat.reduceAdd, Nat.reduceLeDiff, reduceIte, reduceCtorEq, Nat.reduceBEq, tysA, i64, h11, h12]
    refine call_give [] (by rw [reV_eq zeroR]; rfl) (call_pure c0 (r2 _ _) rfl ?_)
    simp only [vsL, vsB, vsC, appendWp, Nat.reduceShiftRight, Nat.reduceMod, Nat.reduceLT, Nat.reduceMul, Nat.reduceSub, Int.reduceToNat, Int.reduceNeg, Int.reduceLT, Int.reduceLE, Int.reduceEq, Nat.reduceEqDiff, Nat.reduceAdd, Nat.reduceLeDiff, reduceIte, reduceCtorEq, Nat.reduceBEq, tysA, i64, h11, h12]
    refine ⟨ps.length - (i + 1), _, _, by omega, Cln.cut 0 (by omega) rfl rfl [11, 12] ?_, i + 1, rfl, hlti, ?_, ?_, rfl⟩ <;> (try simp only [keepE_app, List.contains_cons, List.contains_nil, Nat.reduceBEq, Bool.or_false, Bool.false_or, Bool.or_true, Bool.true_or, updE, trimE_upd, trimE_trim, trimE_app, Nat.reduceShiftRight, Nat.reduceMod, Nat.reduceEqDiff, if_true, if_false, reduceIte])
    · simp [updE, trimE_app, refsV, h11, h12, i64]
    · exact h11
    · rw [w64 _ (by omega)]; rfl
  | true =>
    rw [hex] at cr
    have hex' : ¬ re.exa = false := by rw [hex]; decide
    obtain ⟨sz1, sz2⟩ := exp_sizes re hvb hex
    by_cases hz : 4096 < re.esz
    · have hE : expandR re = (zeroR, 4) := by rw [expandR, if_neg hex', if_pos hz]
      have hlg : 4096 < re.lrg := by omega
      rw [hE]
      simp only [vsL, vsB, vsC, appendWp, Nat.reduceShiftRight, Nat.reduceMod, Nat.reduceLT, Nat.reduceMul, Nat.reduceSub, Int.reduceToNat, Int.reduceNeg, Int.reduceLT, Int.reduceLE, Int.reduceEq, Nat.reduceEqDiff, Nat.reduceAdd, Nat.reduceLeDiff, reduceIte, reduceCtorEq, Nat.reduceBEq, tysA, i64, h11, h12]
      refine call_pure cr (r1 _) rfl ?_
      simp only [vsL, vsB, vsC, appendWp, Nat.reduceShiftRight, Nat.reduceMod, Nat.reduceLT, Nat.reduceMul, Nat.reduceSub, Int.reduceToNat, Int.reduceNeg, Int.reduceLT, Int.reduceLE, Int.reduceEq, Nat.reduceEqDiff, Nat.reduceAdd, Nat.reduceLeDiff, reduceIte, reduceCtorEq, Nat.reduceBEq, tysA, i64, h11, h12]
      refine call_pure cl (r1 _) rfl ?_
      simp only [vsL, vsB, vsC, appendWp, Nat.reduceShiftRight, Nat.reduceMod, Nat.reduceLT, Nat.reduceMul, Nat.reduceSub, Int.reduceToNat, Int.reduceNeg, Int.reduceLT, Int.reduceLE, Int.reduceEq, Nat.reduceEqDiff, Nat.reduceAdd, Nat.reduceLeDiff, reduceIte, reduceCtorEq, Nat.reduceBEq, tysA, i64, h11, h12, hlg, gt_iff_lt]
      refine call_give [] (by rw [reV_eq zeroR]; rfl) (call_pure c0 (r2 _ _) rfl ?_)
      simp only [vsL, vsB, vsC, appendWp, Nat.reduceShiftRight, Nat.reduceMod, Nat.reduceLT, Nat.reduceMul, Nat.reduceSub, Int.reduceToNat, Int.reduceNeg, Int.reduceLT, Int.reduceLE, Int.reduceEq, Nat.reduceEqDiff, Nat.reduceAdd, Nat.reduceLeDiff, reduceIte, reduceCtorEq, Nat.reduceBEq, tysA, i64, h11, h12]
      refine ⟨ps.length - (i + 1), _, _, by omega, Cln.cut 0 (by omega) rfl rfl [11, 12] ?_, i + 1, rfl, hlti, ?_, ?_, rfl⟩ <;> (try simp only [keepE_app, List.contains_cons, List.contains_nil, Nat.reduceBEq, Bool.or_false, Bool.false_or, Bool.or_true, Bool.true_or, updE, trimE_upd, trimE_trim, trimE_app, Nat.reduceShiftRight, Nat.reduceMod, Nat.reduceEqDiff, if_true, if_false, reduceIte])
      · simp [updE, trimE_app, refsV, h11, h12, i64]
      · exact h11
      · rw [w64 _ (by omega)]; rfl
    · have hE : expandR re = (re.exp, 0) := by rw [expandR, if_neg hex', if_neg hz]
      have hlg : ¬ 4096 < re.lrg := by omega
      obtain ⟨f1, f2, f3, f4, f5, f6, f7, f8, f9⟩ := expand_facts re hvb hex hq (by omega)
      have cy := expand_ok re.exp f1
      have hE2 : expandR re.exp = (re.exp, 0) := by rw [expandR, if_neg (by rw [f3]; decide), if_neg (by omega), f5]
      rw [hE2] at cy
      have fx := fine_of_exq _ f1
      have c1 := refCompare_ok re.exp fx re.exp fx
      rw [cmp_self] at c1
      have u1 := uses_ok re.exp fx
      have u2 := uses_ok re hf
      rw [f8] at u1
      have n1 := nullable_ok re.exp fx
      have n2 := nullable_ok re hf
      rw [f7] at n1
      have m1 := numbers_ok re.exp fx (by omega)
      have m2 := numbers_ok re hf (by omega)
      rw [f9] at m1
      have ms := sameInts_ok re.numsR re.numsR (by have := re.numsR_len; omega)
      rw [decide_eq_true rfl] at ms
      rw [hE]
      simp only [i64, bV] at cy c1 u1 u2 n1 n2 ms
      generalize re.exp = x at *
      generalize re.numsR = ns at *
      generalize re.usesA 0 = us at *
      generalize re.anul = nl at *
      simp only [vsL, vsB, vsC, appendWp, Nat.reduceShiftRight, Nat.reduceMod, Nat.reduceLT, Nat.reduceMul, Nat.reduceSub, Int.reduceToNat, Int.reduceNeg, Int.reduceLT, Int.reduceLE, Int.reduceEq, Nat.reduceEqDiff, Nat.reduceAdd, Nat.reduceLeDiff, reduceIte, reduceCtorEq, Nat.reduceBEq, tysA, i64, h11, h12]
      refine call_pure cr (r1 _) rfl ?_
      simp only [vsL, vsB, vsC, appendWp, Nat.reduceShiftRight, Nat.reduceMod, Nat.reduceLT, Nat.reduceMul, Nat.reduceSub, Int.reduceToNat, Int.reduceNeg, Int.reduceLT, Int.reduceLE, Int.reduceEq, Nat.reduceEqDiff, Nat.reduceAdd, Nat.reduceLeDiff, reduceIte, reduceCtorEq, Nat.reduceBEq, tysA, i64, h11, h12]
      refine call_pure cl (r1 _) rfl ?_
      simp only [vsL, vsB, vsC, appendWp, Nat.reduceShiftRight, Nat.reduceMod, Nat.reduceLT, Nat.reduceMul, Nat.reduceSub, Int.reduceToNat, Int.reduceNeg, Int.reduceLT, Int.reduceLE, Int.reduceEq, Nat.reduceEqDiff, Nat.reduceAdd, Nat.reduceLeDiff, reduceIte, reduceCtorEq, Nat.reduceBEq, tysA, i64, h11, h12, hlg, gt_iff_lt]
      refine call_pure cy (r1 _) (rtu _ _) ?_
      simp only [vsL, vsB, vsC, appendWp, Nat.reduceShiftRight, Nat.reduceMod, Nat.reduceLT, Nat.reduceMul, Nat.reduceSub, Int.reduceToNat, Int.reduceNeg, Int.reduceLT, Int.reduceLE, Int.reduceEq, Nat.reduceEqDiff, Nat.reduceAdd, Nat.reduceLeDiff, reduceIte, reduceCtorEq, Nat.reduceBEq, tysA, i64, h11, h12]
      refine draw_c mix [] [] (by rfl) ?_
      simp only [vsL, vsB, vsC, appendWp, Nat.reduceShiftRight, Nat.reduceMod, Nat.reduceLT, Nat.reduceMul, Nat.reduceSub, Int.reduceToNat, Int.reduceNeg, Int.reduceLT, Int.reduceLE, Int.reduceEq, Nat.reduceEqDiff, Nat.reduceAdd, Nat.reduceLeDiff, reduceIte, reduceCtorEq, Nat.reduceBEq, tysA, i64, h11, h12]
      refine callC_pure cd (r1 _) (refsV_reV _ _) ?_
      simp only [vsL, vsB, vsC, appendWp, Nat.reduceShiftRight, Nat.reduceMod, Nat.reduceLT, Nat.reduceMul, Nat.reduceSub, Int.reduceToNat, Int.reduceNeg, Int.reduceLT, Int.reduceLE, Int.reduceEq, Nat.reduceEqDiff, Nat.reduceAdd, Nat.reduceLeDiff, reduceIte, reduceCtorEq, Nat.reduceBEq, tysA, i64, h11, h12]
      refine callC_pure c1 (r2 _ _) rfl ?_
      simp only [vsL, vsB, vsC, appendWp, Nat.reduceShiftRight, Nat.reduceMod, Nat.reduceLT, Nat.reduceMul, Nat.reduceSub, Int.reduceToNat, Int.reduceNeg, Int.reduceLT, Int.reduceLE, Int.reduceEq, Nat.reduceEqDiff, Nat.reduceAdd, Nat.reduceLeDiff, reduceIte, reduceCtorEq, Nat.reduceBEq, tysA, i64, h11, h12]
      refine callC_pure c1 (r2 _ _) rfl ?_
      simp only [vsL, vsB, vsC, appendWp, Nat.reduceShiftRight, Nat.reduceMod, Nat.reduceLT, Nat.reduceMul, Nat.reduceSub, Int.reduceToNat, Int.reduceNeg, Int.reduceLT, Int.reduceLE, Int.reduceEq, Nat.reduceEqDiff, Nat.reduceAdd, Nat.reduceLeDiff, reduceIte, reduceCtorEq, Nat.reduceBEq, tysA, i64, h11, h12]
      refine draw_c mix [] [] (by rfl) ?_
      simp only [vsL, vsB, vsC, appendWp, Nat.reduceShiftRight, Nat.reduceMod, Nat.reduceLT, Nat.reduceMul, Nat.reduceSub, Int.reduceToNat, Int.reduceNeg, Int.reduceLT, Int.reduceLE, Int.reduceEq, Nat.reduceEqDiff, Nat.reduceAdd, Nat.reduceLeDiff, reduceIte, reduceCtorEq, Nat.reduceBEq, tysA, i64, h11, h12]
      refine callC_pure u1 (r1 _) rfl ?_
      simp only [vsL, vsB, vsC, appendWp, Nat.reduceShiftRight, Nat.reduceMod, Nat.reduceLT, Nat.reduceMul, Nat.reduceSub, Int.reduceToNat, Int.reduceNeg, Int.reduceLT, Int.reduceLE, Int.reduceEq, Nat.reduceEqDiff, Nat.reduceAdd, Nat.reduceLeDiff, reduceIte, reduceCtorEq, Nat.reduceBEq, tysA, i64, h11, h12]
      refine callC_pure u2 (r1 _) rfl ?_
      simp only [vsL, vsB, vsC, appendWp, Nat.reduceShiftRight, Nat.reduceMod, Nat.reduceLT, Nat.reduceMul, Nat.reduceSub, Int.reduceToNat, Int.reduceNeg, Int.reduceLT, Int.reduceLE, Int.reduceEq, Nat.reduceEqDiff, Nat.reduceAdd, Nat.reduceLeDiff, reduceIte, reduceCtorEq, Nat.reduceBEq, tysA, i64, h11, h12, beq_self_eq_true]
      refine callC_pure n1 (r1 _) rfl ?_
      simp only [vsL, vsB, vsC, appendWp, Nat.reduceShiftRight, Nat.reduceMod, Nat.reduceLT, Nat.reduceMul, Nat.reduceSub, Int.reduceToNat, Int.reduceNeg, Int.reduceLT, Int.reduceLE, Int.reduceEq, Nat.reduceEqDiff, Nat.reduceAdd, Nat.reduceLeDiff, reduceIte, reduceCtorEq, Nat.reduceBEq, tysA, i64, h11, h12]
      refine callC_pure n2 (r1 _) rfl ?_
      simp only [vsL, vsB, vsC, appendWp, Nat.reduceShiftRight, Nat.reduceMod, Nat.reduceLT, Nat.reduceMul, Nat.reduceSub, Int.reduceToNat, Int.reduceNeg, Int.reduceLT, Int.reduceLE, Int.reduceEq, Nat.reduceEqDiff, Nat.reduceAdd, Nat.reduceLeDiff, reduceIte, reduceCtorEq, Nat.reduceBEq, tysA, i64, h11, h12, beq_self_eq_true]
      refine callC_pure m1 (r1 _) rfl ?_
      simp only [vsL, vsB, vsC, appendWp, Nat.reduceShiftRight, Nat.reduceMod, Nat.reduceLT, Nat.reduceMul, Nat.reduceSub, Int.reduceToNat, Int.reduceNeg, Int.reduceLT, Int.reduceLE, Int.reduceEq, Nat.reduceEqDiff, Nat.reduceAdd, Nat.reduceLeDiff, reduceIte, reduceCtorEq, Nat.reduceBEq, tysA, i64, h11, h12]
      refine callC_pure m2 (r1 _) rfl ?_
      simp only [vsL, vsB, vsC, appendWp, Nat.reduceShiftRight, Nat.reduceMod, Nat.reduceLT, Nat.reduceMul, Nat.reduceSub, Int.reduceToNat, Int.reduceNeg, Int.reduceLT, Int.reduceLE, Int.reduceEq, Nat.reduceEqDiff, Nat.reduceAdd, Nat.reduceLeDiff, reduceIte, reduceCtorEq, Nat.reduceBEq, tysA, i64, h11, h12]
      refine callC_pure ms rfl rfl ?_
      simp only [vsL, vsB, vsC, appendWp, Nat.reduceShiftRight, Nat.reduceMod, Nat.reduceLT, Nat.reduceMul, Nat.reduceSub, Int.reduceToNat, Int.reduceNeg, Int.reduceLT, Int.reduceLE, Int.reduceEq, Nat.reduceEqDiff, Nat.reduceAdd, Nat.reduceLeDiff, reduceIte, reduceCtorEq, Nat.reduceBEq, tysA, i64, h11, h12]
      refine ⟨ps.length - (i + 1), _, _, by omega, Cln.cut 0 (by omega) rfl rfl [11, 12] ?_, i + 1, rfl, hlti, ?_, ?_, rfl⟩ <;> (try simp only [keepE_app, List.contains_cons, List.contains_nil, Nat.reduceBEq, Bool.or_false, Bool.false_or, Bool.or_true, Bool.true_or, updE, trimE_upd, trimE_trim, trimE_app, Nat.reduceShiftRight, Nat.reduceMod, Nat.reduceEqDiff, if_true, if_false, reduceIte])
      · simp [updE, trimE_app, refsV, h11, h12, i64]
      · exact h11
      · rw [w64 _ (by omega)]; rfl

end Go.Proofs.Ytafbdphblilenaa
