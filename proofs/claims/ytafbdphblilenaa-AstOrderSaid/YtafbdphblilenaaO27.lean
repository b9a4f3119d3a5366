/- Part of the proof: the program logic, or what some functions compute (F57). -/
import Derived.Test.YtafbdphblilenaaO25
import Derived.Test.YtafbdphblilenaaO26
set_option linter.unusedSimpArgs false
set_option linter.unusedVariables false
set_option linter.unusedSimpArgs false
set_option linter.unusedVariables false
namespace Go.Proofs.Ytafbdphblilenaa
open Go.VL

/-! ### AstOrder -/

set_option maxRecDepth 100000 in
set_option maxHeartbeats 8000000 in
theorem sameBytes_ok (a b : List Nat) (ha : a.length ≤ 1000000000) : PureOK Try.prog 45 [.d (bytesD a), .d (bytesD b)] (bV (decide (a = b))) := by
  refine fn_ok Try.func45 rfl Try.ntmps45 Try.results45 rfl 0 51 (by simp) (by simp) ?_
  by_cases hl : (a.length : Int) = b.length
  rotate_left
  · simp only [vsL, vsB, vsC, appendWp, Nat.reduceShiftRight, Nat.reduceMod, Nat.reduceLT, Nat.reduceMul, Nat.reduceSub, Int.reduceToNat, Int.reduceNeg, Int.reduceLT, Int.reduceLE, Int.reduceEq, Nat.reduceEqDiff, Nat.reduceAdd, Nat.reduceLeDiff, reduceIte, reduceCtorEq, Nat.reduceBEq, tysA, bytesD, hl]
    rw [decide_eq_false (fun h => hl (by rw [h]))]; rfl
  simp only [vsL, vsB, vsC, appendWp, Nat.reduceShiftRight, Nat.reduceMod, Nat.reduceLT, Nat.reduceMul, Nat.reduceSub, Int.reduceToNat, Int.reduceNeg, Int.reduceLT, Int.reduceLE, Int.reduceEq, Nat.reduceEqDiff, Nat.reduceAdd, Nat.reduceLeDiff, reduceIte, reduceCtorEq, Nat.reduceBEq, tysA, bytesD, hl]
  refine loop_rule (fun n e s => ∃ i : Nat, n = a.length - i ∧ i ≤ a.length ∧ e 0 = .d (bytesD a) ∧ e 1 = .d (bytesD b) ∧ e 5 = i64 i ∧ s = [] ∧ a.take i = b.take i)
    ⟨_, _, _, Cln.refl, 0, rfl, by omega, rfl, rfl, rfl, rfl, rfl⟩ ?_
  rintro n e s ⟨i, rfl, hi, h0, h1, h5, rfl, htk⟩
  rcases Nat.lt_or_ge i a.length with hlt | hge
  · have hltb : i < b.length := by omega
    obtain ⟨x, hx⟩ : ∃ x, a[i]? = some x := ⟨_, List.getElem?_eq_getElem hlt⟩
    obtain ⟨y, hy⟩ : ∃ y, b[i]? = some y := ⟨_, List.getElem?_eq_getElem hltb⟩
    by_cases hxy : (x : Int) = y
    · have hxy' : x = y := by omega
      simp only [vsL, vsB, vsC, appendWp, Nat.reduceShiftRight, Nat.reduceMod, Nat.reduceLT, Nat.reduceMul, Nat.reduceSub, Int.reduceToNat, Int.reduceNeg, Int.reduceLT, Int.reduceLE, Int.reduceEq, Nat.reduceEqDiff, Nat.reduceAdd, Nat.reduceLeDiff, reduceIte, reduceCtorEq, Nat.reduceBEq, tysA, i64, bytesD, h0, h1, h5, hlt, hltb, hl]
      refine draw_c mix [] [] (by rfl) ?_
      simp only [vsL, vsB, vsC, appendWp, Nat.reduceShiftRight, Nat.reduceMod, Nat.reduceLT, Nat.reduceMul, Nat.reduceSub, Int.reduceToNat, Int.reduceNeg, Int.reduceLT, Int.reduceLE, Int.reduceEq, Nat.reduceEqDiff, Nat.reduceAdd, Nat.reduceLeDiff, reduceIte, reduceCtorEq, Nat.reduceBEq, tysA, i64, bytesD, h0, h1, h5, hlt, hltb, hx, hy, hxy]
      refine ⟨a.length - (i + 1), _, _, by omega, Cln.refl, i + 1, rfl, hlt, ?_, ?_, ?_, rfl, by rw [take_get hx, take_get hy, htk, hxy']⟩ <;> (try simp only [keepE_app, List.contains_cons, List.contains_nil, Nat.reduceBEq, Bool.or_false, Bool.false_or, Bool.or_true, Bool.true_or, updE, trimE_upd, trimE_trim, trimE_app, Nat.reduceShiftRight, Nat.reduceMod, Nat.reduceEqDiff, if_true, if_false, reduceIte])
      · exact h0
      · exact h1
      · rw [w64 _ (by omega)]; rfl
    · simp only [vsL, vsB, vsC, appendWp, Nat.reduceShiftRight, Nat.reduceMod, Nat.reduceLT, Nat.reduceMul, Nat.reduceSub, Int.reduceToNat, Int.reduceNeg, Int.reduceLT, Int.reduceLE, Int.reduceEq, Nat.reduceEqDiff, Nat.reduceAdd, Nat.reduceLeDiff, reduceIte, reduceCtorEq, Nat.reduceBEq, tysA, i64, bytesD, h0, h1, h5, hlt, hltb, hl]
      refine draw_c mix [] [] (by rfl) ?_
      simp only [vsL, vsB, vsC, appendWp, Nat.reduceShiftRight, Nat.reduceMod, Nat.reduceLT, Nat.reduceMul, Nat.reduceSub, Int.reduceToNat, Int.reduceNeg, Int.reduceLT, Int.reduceLE, Int.reduceEq, Nat.reduceEqDiff, Nat.reduceAdd, Nat.reduceLeDiff, reduceIte, reduceCtorEq, Nat.reduceBEq, tysA, i64, bytesD, h0, h1, h5, hlt, hltb, hx, hy, hxy]
      rw [decide_eq_false (fun h => by subst h; rw [hx] at hy; simp only [Option.some.injEq] at hy; exact hxy (by rw [hy]))]
      all_goals first | exact ⟨rfl, rfl⟩ | exact ⟨rfl, trivial⟩ | rfl | trivial | (rw [reV_eq]; rfl)
  · have hie : i = a.length := by omega
    subst hie
    have hab : a = b := by
      rw [List.take_length, List.take_of_length_le (by omega)] at htk; exact htk
    simp only [vsL, vsB, vsC, appendWp, Nat.reduceShiftRight, Nat.reduceMod, Nat.reduceLT, Nat.reduceMul, Nat.reduceSub, Int.reduceToNat, Int.reduceNeg, Int.reduceLT, Int.reduceLE, Int.reduceEq, Nat.reduceEqDiff, Nat.reduceAdd, Nat.reduceLeDiff, reduceIte, reduceCtorEq, Nat.reduceBEq, tysA, i64, bytesD, h0, h1, h5, Nat.lt_irrefl]
    rw [decide_eq_true hab]
    all_goals first | exact ⟨rfl, rfl⟩ | exact ⟨rfl, trivial⟩ | rfl | trivial | (rw [reV_eq]; rfl)

theorem I64_wrap (n : Int) : I64 (IntKind.i64.wrap n) := by
  unfold I64; rw [IntKind.wrap_i64]; omega

theorem encP_inj {a b : Re} {c : Nat} (hc : c ≤ 1000000000) (ha : a.every (smallB c) = true) (hb : b.every (smallB c) = true) : encP ⟨a, 0, false⟩ = encP ⟨b, 0, false⟩ ↔ a = b := by
  constructor
  · intro h
    unfold encP at h
    have h2 : a.enc ++ [] = b.enc ++ [] := by
      simp only [List.append_nil]
      exact List.append_cancel_left h
    exact (enc_inj hc a ha b [] [] hb h2).1
  · intro h; rw [h]

theorem build28 (re : Re) : V.ag (re.cells.map V.d ++ [i64 0, bV false]) = .ag ((patC ⟨re, 0, false⟩).map V.d) := by
  unfold patC; rw [List.map_append]; rfl

set_option maxRecDepth 100000 in
set_option maxHeartbeats 16000000 in
theorem astOrderL_ok (l : List Int) (hl : ∀ x ∈ l, I64 x) (m : List Int) (hm : ∀ x ∈ m, I64 x) (tat how by' : Int) (ha : I64 tat) (hh : I64 how) (hb : I64 by') : PureOK Try.prog 10 [.d (intsD l), .d (intsD m), i64 tat, i64 how, i64 by'] (bV true) := by
  obtain ⟨p2, p3, s2, s3, hpairs⟩ := pairsK_ok l hl tat how by' ha hh hb
  have s1 := pat_small l 127 30 hl (by omega) (by omega)
  have s4 := pat_small m 127 4 hm (by omega) (by omega)
  have hp4 := pattern_ok m 127 4 hm (by omega) (by omega)
  generalize patOf l 127 30 = p1 at *
  generalize patOf m 127 4 = p4 at *
  obtain ⟨p5, s5, hp5⟩ := spoilt_ok 256 (by omega) p1 s1 (IntKind.i64.wrap (tat + 1)) how by' (I64_wrap _) hh hb
  rw [patV_C] at hp4
  rw [patV_C, patV_C] at hp5
  have hall := all_ok
  have hlv := lives_ok
  have h03 : (0 : Int) < ((3 : Nat) : Int) := by decide
  obtain ⟨ps, hps⟩ : ∃ ps : List Pat, ps = [p1, p2, p3, p4, p5] := ⟨_, rfl⟩
  have hpl : ps.length = 5 := by rw [hps]; rfl
  have hsm : ∀ p ∈ ps, p.small 2000 := by
    rw [hps]
    intro p hp
    simp only [List.mem_cons, List.not_mem_nil, or_false] at hp
    rcases hp with rfl | rfl | rfl | rfl | rfl
    · exact small_every_le (by omega) s1
    · exact small_every_le (by omega) s2
    · exact small_every_le (by omega) s3
    · exact small_every_le (by omega) s4
    · exact small_every_le (by omega) s5
  simp only [i64] at hpairs hp4 hp5 hall
  refine fn_ok Try.func10 rfl Try.ntmps10 Try.results10 rfl 0 130079 (by simp) (by simp) ?_
  simp only [vsL, vsB, vsC, appendWp, Nat.reduceShiftRight, Nat.reduceMod, Nat.reduceLT, Nat.reduceMul, Nat.reduceSub, Int.reduceToNat, Int.reduceNeg, Int.reduceLT, Int.reduceLE, Int.reduceEq, Nat.reduceEqDiff, Nat.reduceAdd, Nat.reduceLeDiff, reduceIte, reduceCtorEq, Nat.reduceBEq, tysA, i64]
  refine call_pure hpairs rfl rfl ?_
  simp only [vsL, vsB, vsC, appendWp, Nat.reduceShiftRight, Nat.reduceMod, Nat.reduceLT, Nat.reduceMul, Nat.reduceSub, Int.reduceToNat, Int.reduceNeg, Int.reduceLT, Int.reduceLE, Int.reduceEq, Nat.reduceEqDiff, Nat.reduceAdd, Nat.reduceLeDiff, reduceIte, reduceCtorEq, Nat.reduceBEq, tysA, i64]
  refine draw_c mix [13] [] (by rfl) ?_
  simp only [vsL, vsB, vsC, appendWp, Nat.reduceShiftRight, Nat.reduceMod, Nat.reduceLT, Nat.reduceMul, Nat.reduceSub, Int.reduceToNat, Int.reduceNeg, Int.reduceLT, Int.reduceLE, Int.reduceEq, Nat.reduceEqDiff, Nat.reduceAdd, Nat.reduceLeDiff, reduceIte, reduceCtorEq, Nat.reduceBEq, tysA, i64]
  refine callC_pure hall rfl rfl ?_
  simp only [vsL, vsB, vsC, appendWp, Nat.reduceShiftRight, Nat.reduceMod, Nat.reduceLT, Nat.reduceMul, Nat.reduceSub, Int.reduceToNat, Int.reduceNeg, Int.reduceLT, Int.reduceLE, Int.reduceEq, Nat.reduceEqDiff, Nat.reduceAdd, Nat.reduceLeDiff, reduceIte, reduceCtorEq, Nat.reduceBEq, tysA, i64]
  refine callC_pure hp4 rfl (by simp only [refsV, refsV_go_d]) ?_
  simp only [vsL, vsB, vsC, appendWp, Nat.reduceShiftRight, Nat.reduceMod, Nat.reduceLT, Nat.reduceMul, Nat.reduceSub, Int.reduceToNat, Int.reduceNeg, Int.reduceLT, Int.reduceLE, Int.reduceEq, Nat.reduceEqDiff, Nat.reduceAdd, Nat.reduceLeDiff, reduceIte, reduceCtorEq, Nat.reduceBEq, tysA, i64, h03, patC_len, take_patC, List.length_map]
  refine callC_pure hp5 (by simp only [refsV, refsV.go, refsV_go_d, Bool.and_self]) (by simp only [refsV, refsV_go_d]) ?_
  simp only [vsL, vsB, vsC, appendWp, Nat.reduceShiftRight, Nat.reduceMod, Nat.reduceLT, Nat.reduceMul, Nat.reduceSub, Int.reduceToNat, Int.reduceNeg, Int.reduceLT, Int.reduceLE, Int.reduceEq, Nat.reduceEqDiff, Nat.reduceAdd, Nat.reduceLeDiff, reduceIte, reduceCtorEq, Nat.reduceBEq, tysA, i64, patC_len, take_patC, List.length_map]
  refine ⟨by simp [patC_len], by simp [patC_len], ?_⟩
  refine loop_rule (fun n e s => ∃ i : Nat, n = ps.length - i ∧ i ≤ ps.length ∧ e 11 = .d (.sl (ps.map patC)) ∧ e 12 = i64 i ∧ s = [])
    ⟨_, _, _, Cln.drop 0 (Nat.le_refl _) [11, 12], 0, rfl, by omega, ?_, ?_, rfl⟩ ?_
  · have hp3 : ∀ (n lim : Nat) (s : List VL.Obj) (p : Pat), ((patC p).map V.d).mapM (frzD n lim s) = some (patC p) := fun n lim s p => mapM_frzD n lim s (patC p)
    rw [hps]
    simp only [cleanE, cleanV, List.contains_cons, List.contains_nil, Nat.reduceBEq, Bool.or_false, Bool.false_or, Bool.true_or, Bool.or_true, if_true, if_false, reduceIte, updE, Nat.reduceEqDiff, frzV, frzD, List.getElem?_cons_zero, List.getElem?_cons_succ,
      true_and, and_true, Nat.zero_le, true_or, Nat.reduceAdd, List.length_append, List.length_cons, List.length_nil, Nat.le_refl, List.drop_zero, List.map_cons, List.map_nil, List.cons_append, List.nil_append, List.take_succ_cons, List.take_zero, List.mapM_cons, List.mapM_nil,
      hp3, Option.bind_eq_bind, Option.bind_some, Option.pure_def, Option.map_some, Option.getD_some]
  · simp [cleanE, cleanV, updE, frzV, i64]
  clear hps hpairs hp4 hp5 hall
  have hfine : ∀ p ∈ ps, p.re.fine = true := fun p hp => small_fine (by omega) p.re (hsm p hp).ev
  rintro n e s ⟨i, rfl, hi, h11, h12, rfl⟩
  rcases Nat.lt_or_ge i ps.length with hlti | hge
  rotate_left
  · have hie : i = ps.length := by omega
    subst hie
    simp only [vsL, vsB, vsC, appendWp, Nat.reduceShiftRight, Nat.reduceMod, Nat.reduceLT, Nat.reduceMul, Nat.reduceSub, Int.reduceToNat, Int.reduceNeg, Int.reduceLT, Int.reduceLE, Int.reduceEq, Nat.reduceEqDiff, Nat.reduceAdd, Nat.reduceLeDiff, reduceIte, reduceCtorEq, Nat.reduceBEq, tysA, i64, h11, h12, Nat.lt_irrefl]
    refine call_pure hlv rfl rfl ?_
    simp only [vsL, vsB, vsC, appendWp, Nat.reduceShiftRight, Nat.reduceMod, Nat.reduceLT, Nat.reduceMul, Nat.reduceSub, Int.reduceToNat, Int.reduceNeg, Int.reduceLT, Int.reduceLE, Int.reduceEq, Nat.reduceEqDiff, Nat.reduceAdd, Nat.reduceLeDiff, reduceIte, reduceCtorEq, Nat.reduceBEq, tysA, i64, bV]
  obtain ⟨pi, hpi⟩ : ∃ p, ps[i]? = some p := ⟨_, List.getElem?_eq_getElem hlti⟩
  have hmi := List.mem_of_getElem? hpi
  simp only [vsL, vsB, vsC, appendWp, Nat.reduceShiftRight, Nat.reduceMod, Nat.reduceLT, Nat.reduceMul, Nat.reduceSub, Int.reduceToNat, Int.reduceNeg, Int.reduceLT, Int.reduceLE, Int.reduceEq, Nat.reduceEqDiff, Nat.reduceAdd, Nat.reduceLeDiff, reduceIte, reduceCtorEq, Nat.reduceBEq, tysA, i64, h11, h12, hlti]
  refine loop_rule (fun n e s => ∃ k : Nat, n = ps.length - k ∧ k ≤ ps.length ∧ e 11 = .d (.sl (ps.map patC)) ∧ e 12 = i64 i ∧ e 13 = i64 k ∧ s = [])
    ⟨_, _, _, Cln.refl, 0, rfl, by omega, ?_, ?_, rfl, rfl⟩ ?_ <;> (try simp only [keepE_app, List.contains_cons, List.contains_nil, Nat.reduceBEq, Bool.or_false, Bool.false_or, Bool.or_true, Bool.true_or, updE, trimE_upd, trimE_trim, trimE_app, Nat.reduceShiftRight, Nat.reduceMod, Nat.reduceEqDiff, if_true, if_false, reduceIte])
  · exact h11
  · exact h12
  clear h11 h12
  rintro n e s ⟨k, rfl, hk, h11, h12, h13, rfl⟩
  rcases Nat.lt_or_ge k ps.length with hltk | hge
  rotate_left
  · have hke : k = ps.length := by omega
    subst hke
    simp only [vsL, vsB, vsC, appendWp, Nat.reduceShiftRight, Nat.reduceMod, Nat.reduceLT, Nat.reduceMul, Nat.reduceSub, Int.reduceToNat, Int.reduceNeg, Int.reduceLT, Int.reduceLE, Int.reduceEq, Nat.reduceEqDiff, Nat.reduceAdd, Nat.reduceLeDiff, reduceIte, reduceCtorEq, Nat.reduceBEq, tysA, i64, h11, h12, h13, Nat.lt_irrefl]
    refine ⟨ps.length - (i + 1), _, _, by omega, Cln.refl, i + 1, rfl, hlti, ?_, ?_, rfl⟩ <;> (try simp only [keepE_app, List.contains_cons, List.contains_nil, Nat.reduceBEq, Bool.or_false, Bool.false_or, Bool.or_true, Bool.true_or, updE, trimE_upd, trimE_trim, trimE_app, Nat.reduceShiftRight, Nat.reduceMod, Nat.reduceEqDiff, if_true, if_false, reduceIte])
    · exact h11
    · rw [w64 _ (by omega)]; rfl
  obtain ⟨pk, hpk⟩ : ∃ p, ps[k]? = some p := ⟨_, List.getElem?_eq_getElem hltk⟩
  have hmk := List.mem_of_getElem? hpk
  have kc := compare_ok pi.re pk.re (hfine pi hmi) (hfine pk hmk)
  have kc2 := compare_ok pk.re pi.re (hfine pk hmk) (hfine pi hmi)
  have hz0 : I64 0 := by decide
  have ei : (⟨pi.re, 0, false⟩ : Pat).small 2000 := ⟨(hsm pi hmi).ev, (hsm pi hmi).sz, hz0⟩
  have ek : (⟨pk.re, 0, false⟩ : Pat).small 2000 := ⟨(hsm pk hmk).ev, (hsm pk hmk).sz, hz0⟩
  have ki := encode_ok 2000 (by omega) ⟨pi.re, 0, false⟩ ei
  have kk := encode_ok 2000 (by omega) ⟨pk.re, 0, false⟩ ek
  have hel := enc_len 2000 pi.re (hsm pi hmi).ev
  have hpsz := (hsm pi hmi).sz
  have ks := sameBytes_ok (encP ⟨pi.re, 0, false⟩) (encP ⟨pk.re, 0, false⟩) (by
    have h1 : pi.re.size * (11 * (2 * 2000 + 10)) ≤ 2000 * (11 * (2 * 2000 + 10)) := Nat.mul_le_mul (by omega) (by omega)
    have h2 := uv_len (zz 0)
    unfold encP; simp only [List.length_append, List.length_cons, List.length_nil]; omega)
  have hsame : decide (encP ⟨pi.re, 0, false⟩ = encP ⟨pk.re, 0, false⟩) = decide (pi.re.cmp pk.re = 0) := decide_eq_decide.2 ((encP_inj (by omega) (hsm pi hmi).ev (hsm pk hmk).ev).trans cmp_zero.symm)
  rw [hsame] at ks
  rw [← build28] at ki kk
  have hcr := cmp_range pi.re pk.re
  have hsw := cmp_swap pi.re pk.re
  have hn1 : ¬ pi.re.cmp pk.re < -1 := by omega
  have hn2 : ¬ 1 < pi.re.cmp pk.re := by omega
  have wn : IntKind.i64.wrap (0 - pk.re.cmp pi.re) = pi.re.cmp pk.re := by rw [hsw, w64 _ (by omega)]; omega
  have htr : ∀ p ∈ ps, pi.re.cmp pk.re < 0 → pk.re.cmp p.re < 0 → pi.re.cmp p.re < 0 := fun p _ h1 h2 => cmp_trans h1 h2
  have kcs : ∀ p ∈ ps, PureOK Try.prog 38 [reV pk.re, reV p.re] (i64 (pk.re.cmp p.re)) := fun p hp => compare_ok pk.re p.re (hfine pk hmk) (hfine p hp)
  have kcs2 : ∀ p ∈ ps, PureOK Try.prog 38 [reV pi.re, reV p.re] (i64 (pi.re.cmp p.re)) := fun p hp => compare_ok pi.re p.re (hfine pi hmi) (hfine p hp)
  clear hsame hsw hel
  generalize encP ⟨pi.re, 0, false⟩ = Ei at *
  generalize encP ⟨pk.re, 0, false⟩ = Ek at *
  simp only [i64, bV] at kc kc2 ki kk ks
  generalize hcc : pi.re.cmp pk.re = c at *
  simp only [vsL, vsB, vsC, appendWp, Nat.reduceShiftRight, Nat.reduceMod, Nat.reduceLT, Nat.reduceMul, Nat.reduceSub, Int.reduceToNat, Int.reduceNeg, Int.reduceLT, Int.reduceLE, Int.reduceEq, Nat.reduceEqDiff, Nat.reduceAdd, Nat.reduceLeDiff, reduceIte, reduceCtorEq, Nat.reduceBEq, tysA, i64, h11, h12, h13, hltk]
  refine draw_c mix [] [] (by rfl) ?_
  simp only [vsL, vsB, vsC, appendWp, Nat.reduceShiftRight, Nat.reduceMod, Nat.reduceLT, Nat.reduceMul, Nat.reduceSub, Int.reduceToNat, Int.reduceNeg, Int.reduceLT, Int.reduceLE, Int.reduceEq, Nat.reduceEqDiff, Nat.reduceAdd, Nat.reduceLeDiff, reduceIte, reduceCtorEq, Nat.reduceBEq, tysA, i64, h11, h12, h13, hlti, hltk, hpi, hpk, patC_len, take8_patC]
  refine callC_pure kc (by simp [refsV, refsV.go, refsV_reV]) rfl ?_
  simp only [vsL, vsB, vsC, appendWp, Nat.reduceShiftRight, Nat.reduceMod, Nat.reduceLT, Nat.reduceMul, Nat.reduceSub, Int.reduceToNat, Int.reduceNeg, Int.reduceLT, Int.reduceLE, Int.reduceEq, Nat.reduceEqDiff, Nat.reduceAdd, Nat.reduceLeDiff, reduceIte, reduceCtorEq, Nat.reduceBEq, tysA, i64, h11, h12, h13]
  refine draw_c mix [] [] (by rfl) ?_
  simp only [vsL, vsB, vsC, appendWp, Nat.reduceShiftRight, Nat.reduceMod, Nat.reduceLT, Nat.reduceMul, Nat.reduceSub, Int.reduceToNat, Int.reduceNeg, Int.reduceLT, Int.reduceLE, Int.reduceEq, Nat.reduceEqDiff, Nat.reduceAdd, Nat.reduceLeDiff, reduceIte, reduceCtorEq, Nat.reduceBEq, tysA, i64, h11, h12, h13, hlti, hltk, hpi, hpk, patC_len, take8_patC]
  have hb1 := build28 pi.re
  have hb2 := build28 pk.re
  simp only [i64, bV] at hb1 hb2
  refine callC_pure ki (by rw [hb1]; simp only [refsV, refsV.go, refsV_go_d, Bool.and_self]) rfl ?_
  simp only [vsL, vsB, vsC, appendWp, Nat.reduceShiftRight, Nat.reduceMod, Nat.reduceLT, Nat.reduceMul, Nat.reduceSub, Int.reduceToNat, Int.reduceNeg, Int.reduceLT, Int.reduceLE, Int.reduceEq, Nat.reduceEqDiff, Nat.reduceAdd, Nat.reduceLeDiff, reduceIte, reduceCtorEq, Nat.reduceBEq, tysA, i64, h11, h12, h13, hlti, hltk, hpi, hpk, patC_len, take8_patC]
  refine callC_pure kk (by rw [hb2]; simp only [refsV, refsV.go, refsV_go_d, Bool.and_self]) rfl ?_
  simp only [vsL, vsB, vsC, appendWp, Nat.reduceShiftRight, Nat.reduceMod, Nat.reduceLT, Nat.reduceMul, Nat.reduceSub, Int.reduceToNat, Int.reduceNeg, Int.reduceLT, Int.reduceLE, Int.reduceEq, Nat.reduceEqDiff, Nat.reduceAdd, Nat.reduceLeDiff, reduceIte, reduceCtorEq, Nat.reduceBEq, tysA, i64, h11, h12, h13]
  refine callC_pure ks rfl rfl ?_
  simp only [vsL, vsB, vsC, appendWp, Nat.reduceShiftRight, Nat.reduceMod, Nat.reduceLT, Nat.reduceMul, Nat.reduceSub, Int.reduceToNat, Int.reduceNeg, Int.reduceLT, Int.reduceLE, Int.reduceEq, Nat.reduceEqDiff, Nat.reduceAdd, Nat.reduceLeDiff, reduceIte, reduceCtorEq, Nat.reduceBEq, tysA, i64, h11, h12, h13]
  refine draw_c mix [] [] (by rfl) ?_
  simp only [vsL, vsB, vsC, appendWp, Nat.reduceShiftRight, Nat.reduceMod, Nat.reduceLT, Nat.reduceMul, Nat.reduceSub, Int.reduceToNat, Int.reduceNeg, Int.reduceLT, Int.reduceLE, Int.reduceEq, Nat.reduceEqDiff, Nat.reduceAdd, Nat.reduceLeDiff, reduceIte, reduceCtorEq, Nat.reduceBEq, tysA, i64, h11, h12, h13, hlti, hltk, hpi, hpk, patC_len, take8_patC, hn1, hn2]
  refine callC_pure kc2 (by simp [refsV, refsV.go, refsV_reV]) rfl ?_
  simp only [vsL, vsB, vsC, appendWp, Nat.reduceShiftRight, Nat.reduceMod, Nat.reduceLT, Nat.reduceMul, Nat.reduceSub, Int.reduceToNat, Int.reduceNeg, Int.reduceLT, Int.reduceLE, Int.reduceEq, Nat.reduceEqDiff, Nat.reduceAdd, Nat.reduceLeDiff, reduceIte, reduceCtorEq, Nat.reduceBEq, tysA, i64, h11, h12, h13, wn, beq_self_eq_true]
  refine loop_rule (fun n e s => ∃ j : Nat, n = ps.length - j ∧ j ≤ ps.length ∧ e 11 = .d (.sl (ps.map patC)) ∧ e 12 = i64 i ∧ e 13 = i64 k ∧ e 14 = i64 c ∧ e 16 = i64 j ∧ s = [])
    ⟨_, _, _, Cln.refl, 0, rfl, by omega, ?_, ?_, ?_, ?_, ?_, rfl⟩ ?_ <;> (try simp only [keepE_app, List.contains_cons, List.contains_nil, Nat.reduceBEq, Bool.or_false, Bool.false_or, Bool.or_true, Bool.true_or, updE, trimE_upd, trimE_trim, trimE_app, Nat.reduceShiftRight, Nat.reduceMod, Nat.reduceEqDiff, if_true, if_false, reduceIte])
  · exact h11
  · exact h12
  · exact h13
  · rfl
  · rfl
  clear h11 h12 h13 ki kk ks kc kc2
  rintro n e s ⟨j, rfl, hj, h11, h12, h13, h14, h16, rfl⟩
  rcases Nat.lt_or_ge j ps.length with hltj | hge
  rotate_left
  · have hje : j = ps.length := by omega
    subst hje
    simp only [vsL, vsB, vsC, appendWp, Nat.reduceShiftRight, Nat.reduceMod, Nat.reduceLT, Nat.reduceMul, Nat.reduceSub, Int.reduceToNat, Int.reduceNeg, Int.reduceLT, Int.reduceLE, Int.reduceEq, Nat.reduceEqDiff, Nat.reduceAdd, Nat.reduceLeDiff, reduceIte, reduceCtorEq, Nat.reduceBEq, tysA, i64, h11, h12, h13, h14, h16, Nat.lt_irrefl]
    refine ⟨ps.length - (k + 1), _, _, by omega, Cln.refl, k + 1, rfl, hltk, ?_, ?_, ?_, rfl⟩ <;> (try simp only [keepE_app, List.contains_cons, List.contains_nil, Nat.reduceBEq, Bool.or_false, Bool.false_or, Bool.or_true, Bool.true_or, updE, trimE_upd, trimE_trim, trimE_app, Nat.reduceShiftRight, Nat.reduceMod, Nat.reduceEqDiff, if_true, if_false, reduceIte])
    · exact h11
    · exact h12
    · rw [w64 _ (by omega)]; rfl
  obtain ⟨pj, hpj⟩ : ∃ p, ps[j]? = some p := ⟨_, List.getElem?_eq_getElem hltj⟩
  have hmj := List.mem_of_getElem? hpj
  have kd := kcs pj hmj
  have kd2 := kcs2 pj hmj
  have ht := htr pj hmj
  simp only [i64] at kd kd2
  simp only [vsL, vsB, vsC, appendWp, Nat.reduceShiftRight, Nat.reduceMod, Nat.reduceLT, Nat.reduceMul, Nat.reduceSub, Int.reduceToNat, Int.reduceNeg, Int.reduceLT, Int.reduceLE, Int.reduceEq, Nat.reduceEqDiff, Nat.reduceAdd, Nat.reduceLeDiff, reduceIte, reduceCtorEq, Nat.reduceBEq, tysA, i64, h11, h12, h13, h14, h16, hltj]
  refine draw_c mix [] [] (by rfl) ?_
  by_cases hc0 : c < 0
  · simp only [vsL, vsB, vsC, appendWp, Nat.reduceShiftRight, Nat.reduceMod, Nat.reduceLT, Nat.reduceMul, Nat.reduceSub, Int.reduceToNat, Int.reduceNeg, Int.reduceLT, Int.reduceLE, Int.reduceEq, Nat.reduceEqDiff, Nat.reduceAdd, Nat.reduceLeDiff, reduceIte, reduceCtorEq, Nat.reduceBEq, tysA, i64, h11, h12, h13, h14, h16, hc0, hlti, hltk, hltj, hpi, hpk, hpj, patC_len, take8_patC]
    refine callC_pure kd (by simp [refsV, refsV.go, refsV_reV]) rfl ?_
    by_cases hc1 : pk.re.cmp pj.re < 0
    · have hnge : ¬ pi.re.cmp pj.re ≥ 0 := by have := ht hc0 hc1; omega
      have hnge' : ¬ 0 ≤ pi.re.cmp pj.re := hnge
      simp only [vsL, vsB, vsC, appendWp, Nat.reduceShiftRight, Nat.reduceMod, Nat.reduceLT, Nat.reduceMul, Nat.reduceSub, Int.reduceToNat, Int.reduceNeg, Int.reduceLT, Int.reduceLE, Int.reduceEq, Nat.reduceEqDiff, Nat.reduceAdd, Nat.reduceLeDiff, reduceIte, reduceCtorEq, Nat.reduceBEq, tysA, i64, h11, h12, h13, h14, h16, hc0, hc1, hlti, hltk, hltj, hpi, hpk, hpj, patC_len, take8_patC]
      refine callC_pure kd2 (by simp [refsV, refsV.go, refsV_reV]) rfl ?_
      simp only [vsL, vsB, vsC, appendWp, Nat.reduceShiftRight, Nat.reduceMod, Nat.reduceLT, Nat.reduceMul, Nat.reduceSub, Int.reduceToNat, Int.reduceNeg, Int.reduceLT, Int.reduceLE, Int.reduceEq, Nat.reduceEqDiff, Nat.reduceAdd, Nat.reduceLeDiff, reduceIte, reduceCtorEq, Nat.reduceBEq, tysA, i64, h11, h12, h13, h14, h16, hnge, hnge']
      refine ⟨ps.length - (j + 1), _, _, by omega, Cln.refl, j + 1, rfl, hltj, ?_, ?_, ?_, ?_, ?_, rfl⟩ <;> (try simp only [keepE_app, List.contains_cons, List.contains_nil, Nat.reduceBEq, Bool.or_false, Bool.false_or, Bool.or_true, Bool.true_or, updE, trimE_upd, trimE_trim, trimE_app, Nat.reduceShiftRight, Nat.reduceMod, Nat.reduceEqDiff, if_true, if_false, reduceIte])
      · exact h11
      · exact h12
      · exact h13
      · exact h14
      · rw [w64 _ (by omega)]; rfl
    · simp only [vsL, vsB, vsC, appendWp, Nat.reduceShiftRight, Nat.reduceMod, Nat.reduceLT, Nat.reduceMul, Nat.reduceSub, Int.reduceToNat, Int.reduceNeg, Int.reduceLT, Int.reduceLE, Int.reduceEq, Nat.reduceEqDiff, Nat.reduceAdd, Nat.reduceLeDiff, reduceIte, reduceCtorEq, Nat.reduceBEq, tysA, i64, h11, h12, h13, h14, h16, hc0, hc1]
      refine ⟨ps.length - (j + 1), _, _, by omega, Cln.refl, j + 1, rfl, hltj, ?_, ?_, ?_, ?_, ?_, rfl⟩ <;> (try simp only [keepE_app, List.contains_cons, List.contains_nil, Nat.reduceBEq, Bool.or_false, Bool.false_or, Bool.or_true, Bool.true_or, updE, trimE_upd, trimE_trim, trimE_app, Nat.reduceShiftRight, Nat.reduceMod, Nat.reduceEqDiff, if_true, if_false, reduceIte])
      · exact h11
      · exact h12
      · exact h13
      · exact h14
      · rw [w64 _ (by omega)]; rfl
  · simp only [vsL, vsB, vsC, appendWp, Nat.reduceShiftRight, Nat.reduceMod, Nat.reduceLT, Nat.reduceMul, Nat.reduceSub, Int.reduceToNat, Int.reduceNeg, Int.reduceLT, Int.reduceLE, Int.reduceEq, Nat.reduceEqDiff, Nat.reduceAdd, Nat.reduceLeDiff, reduceIte, reduceCtorEq, Nat.reduceBEq, tysA, i64, h11, h12, h13, h14, h16, hc0]
    refine ⟨ps.length - (j + 1), _, _, by omega, Cln.refl, j + 1, rfl, hltj, ?_, ?_, ?_, ?_, ?_, rfl⟩ <;> (try simp only [keepE_app, List.contains_cons, List.contains_nil, Nat.reduceBEq, Bool.or_false, Bool.false_or, Bool.or_true, Bool.true_or, updE, trimE_upd, trimE_trim, trimE_app, Nat.reduceShiftRight, Nat.reduceMod, Nat.reduceEqDiff, if_true, if_false, reduceIte])
    · exact h11
    · exact h12
    · exact h13
    · exact h14
    · rw [w64 _ (by omega)]; rfl

end Go.Proofs.Ytafbdphblilenaa
