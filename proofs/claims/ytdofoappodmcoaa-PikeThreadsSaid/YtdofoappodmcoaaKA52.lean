/- A part of the proof (K55). -/
import Derived.Test.YtdofoappodmcoaaKA49
import Derived.Test.YtdofoappodmcoaaKA41
import Derived.Test.YtdofoappodmcoaaKA51
import Derived.Test.YtdofoappodmcoaaKA26
set_option linter.unusedSimpArgs false
set_option linter.unusedVariables false
set_option maxRecDepth 100000
set_option maxHeartbeats 80000000
namespace Go.Proofs.Ytdofoappodmcoaa
open Go.VL Go.Proofs.Try
theorem getL_of' {α : Type} {n : Nat} {L : List α} (h : L.length = n) {j : Nat} (hj : j < n) : ∃ x, L[j]? = some x := ⟨L[j]'(by omega), List.getElem?_eq_getElem (by omega)⟩
theorem thrX_len (g : Prg) (t : List Int) (at_ en : Int) : (thrX g t at_ en).1.length ≤ 1000000 := by
 unfold thrX
 split
 ·simp
 split
 ·simp
 split
 ·simp
 ·rename_i h0 _ _
  have hg : g.good := good_of (by simpa using h0)
  obtain ⟨b1, b2⟩ := begin_th g hg t at_
  obtain ⟨c1, c2⟩ := iter_th g hg t (en - at_).toNat _ b1 b2
  unfold thr0
  rw [List.length_map]
  exact Nat.le_trans (cutR_len g _) c2
theorem pikeThreadsL_ok (l : List Int) (hl : ∀ x ∈ l, I64 x) (m : List Int) (hm : ∀ x ∈ m, I64 x) (at_ how by' : Int) (ha : I64 at_) (hh : I64 how) (hb : I64 by') :
  PureOK prog 4 [.d (intsD l), .d (intsD m), i64 at_, i64 how, i64 by'] (bV true) := by
 obtain ⟨p, t, h, g1, g2, hprog, hP, hcomp, hsm⟩ := programs_ok l m hl hm at_ how by' ha hh hb
 have htl := hP.len
 have hlv := lives11_ok
 have har := around_ok at_ ((t.length : Int) + 1) (by omega) ha
 have har2 := around_ok how ((t.length : Int) + 1) (by omega) hh
 have w1 : IntKind.i64.wrap ((t.length : Int) + 1) = (t.length : Int) + 1 := w64 _ (by omega)
 have hLn : ([compR p, h, g1, g2] : List Prg).length = 4 := rfl
 generalize ([compR p, h, g1, g2] : List Prg) = L at *
 generalize around at_ ((t.length : Int) + 1) = aa at *
 generalize around how ((t.length : Int) + 1) = ab at *
 simp only [progsD, i64, bV] at hprog hlv har har2
 refine fn_ok func4 rfl ntmps4 results4 rfl 0 4193311 (by simp) (by simp) ?_
 simp only [zX, Nat.reduceShiftRight, Nat.reduceMod, Nat.reduceLT, Nat.reduceMul, Nat.reduceSub, Int.reduceToNat, Int.reduceNeg, Int.reduceLT, Int.reduceLE, Int.reduceEq, Nat.reduceEqDiff, Nat.reduceAdd, Nat.reduceLeDiff, reduceIte, reduceCtorEq, Nat.reduceBEq, i64, bV, iD, bD]
 refine call_pure hprog rfl rfl ?_
 simp only [zX, Nat.reduceShiftRight, Nat.reduceMod, Nat.reduceLT, Nat.reduceMul, Nat.reduceSub, Int.reduceToNat, Int.reduceNeg, Int.reduceLT, Int.reduceLE, Int.reduceEq, Nat.reduceEqDiff, Nat.reduceAdd, Nat.reduceLeDiff, reduceIte, reduceCtorEq, Nat.reduceBEq, i64, bV, iD, bD]
 refine loop_rule (fun n e s => ∃ i : Nat, n = 4 - i ∧ i ≤ 4 ∧ e 2 = i64 at_ ∧ e 3 = i64 how ∧ e 4 = i64 by' ∧ e 11 = .d (.sl (L.map Prg.cells)) ∧ e 12 = .d (intsD t) ∧ e 13 = i64 i ∧ s = [])
  ⟨_, _, _, Cln.refl, 0, rfl, by omega, rfl, rfl, rfl, rfl, rfl, rfl, rfl⟩ ?_
 rintro n e s ⟨i, rfl, hi, h2, h3, h4, h11, h12, h13, rfl⟩
 rcases Nat.lt_or_ge i 4 with hlt | hge
 ·obtain ⟨g, hg⟩ := getL_of' hLn hlt
  have hgs := hsm g (List.mem_of_getElem? hg)
  have hgl := hgs.len
  have hgset : ∀ x ∈ g.ins, x.set.length ≤ 1000000000 := fun x hx => by have := hgs.sets x hx; omega
  have hreal := real_ok g (by omega)
  have hrun := fun s => pThreads_ok g (by omega) hgset t (by omega) aa s
  have href := fun s => Threads11_ok g (by omega) hgset t (by omega) aa s
  have heq := fun s => sameInts_ok (thrX g t aa s).1 (thrX g t aa s).1 (by have := thrX_len g t aa s; omega)
  have hprops := fun s => thrX_props g t aa s
  have hlen := fun s => thrX_len g t aa s
  simp only [decide_true] at heq
  simp only [thrX_E] at hrun
  have hlt' : (i : Int) < (L.length : Int) := by omega
  simp only [prgV_eq, i64, bV, iD, bD, intsD] at hreal hrun href heq
  simp only [zX, Nat.reduceShiftRight, Nat.reduceMod, Nat.reduceLT, Nat.reduceMul, Nat.reduceSub, Int.reduceToNat, Int.reduceNeg, Int.reduceLT, Int.reduceLE, Int.reduceEq, Nat.reduceEqDiff, Nat.reduceAdd, Nat.reduceLeDiff, reduceIte, reduceCtorEq, Nat.reduceBEq, i64, bV, iD, bD, h2, h3, h4, h11, h12, h13, hlt', w1, List.length_map, intsD]
  refine call_pure har rfl rfl ?_
  simp only [zX, Nat.reduceShiftRight, Nat.reduceMod, Nat.reduceLT, Nat.reduceMul, Nat.reduceSub, Int.reduceToNat, Int.reduceNeg, Int.reduceLT, Int.reduceLE, Int.reduceEq, Nat.reduceEqDiff, Nat.reduceAdd, Nat.reduceLeDiff, reduceIte, reduceCtorEq, Nat.reduceBEq, i64, bV, iD, bD, h2, h3, h4, h11, h12, h13, intsD, List.length_map, w1]
  refine call_pure har2 rfl rfl ?_
  simp only [zX, Nat.reduceShiftRight, Nat.reduceMod, Nat.reduceLT, Nat.reduceMul, Nat.reduceSub, Int.reduceToNat, Int.reduceNeg, Int.reduceLT, Int.reduceLE, Int.reduceEq, Nat.reduceEqDiff, Nat.reduceAdd, Nat.reduceLeDiff, reduceIte, reduceCtorEq, Nat.reduceBEq, i64, bV, iD, bD, h2, h3, h4, h11, h12, h13, intsD, List.length_map]
  obtain ⟨S, hS⟩ : ∃ S : List (List D), S = [[iD aa], [iD ab], [iD t.length], [iD by']] := ⟨_, rfl⟩
  have hSl : S.length = 4 := by rw [hS]; rfl
  have hSr : ∀ r, r < 4 → ∃ sv : Int, S[r]? = some [.sc (.int .i64 sv)] := by
   intro r hr
   subst hS
   match r, hr with
   | 0, _ => exact ⟨_, rfl⟩
   | 1, _ => exact ⟨_, rfl⟩
   | 2, _ => exact ⟨_, rfl⟩
   | 3, _ => exact ⟨_, rfl⟩
  refine loop_rule (fun n e s => ∃ k : Nat, n = 4 - k ∧ k ≤ 4 ∧ e 2 = i64 at_ ∧ e 3 = i64 how ∧ e 4 = i64 by' ∧ e 11 = .d (.sl (L.map Prg.cells)) ∧ e 12 = .d (intsD t) ∧ e 13 = i64 i ∧ e 14 = i64 aa ∧ e 15 = .fu S ∧ e 16 = i64 k ∧ s = [])
   ⟨_, _, _, Cln.refl, 0, rfl, by omega, h2, h3, h4, h11, h12, h13, rfl, by rw [hS]; rfl, rfl, rfl⟩ ?_
  clear hS
  rintro n e s ⟨k, rfl, hk, h2, h3, h4, h11, h12, h13, h14, h15, h16, rfl⟩
  rcases Nat.lt_or_ge k 4 with hlt2 | hge2
  ·obtain ⟨sv, hsv⟩ := hSr k hlt2
   have hr := hrun sv
   have hf := href sv
   have hq := heq sv
   have hpr := hprops sv
   have hpl := hlen sv
   generalize thrX g t aa sv = R at *
   obtain ⟨A, Re⟩ := R
   simp only at hr hf hq hpr hpl
   have hk' : (k : Int) < (S.length : Int) := by omega
   simp only [zX, Nat.reduceShiftRight, Nat.reduceMod, Nat.reduceLT, Nat.reduceMul, Nat.reduceSub, Int.reduceToNat, Int.reduceNeg, Int.reduceLT, Int.reduceLE, Int.reduceEq, Nat.reduceEqDiff, Nat.reduceAdd, Nat.reduceLeDiff, reduceIte, reduceCtorEq, Nat.reduceBEq, i64, bV, iD, bD, h2, h3, h4, h11, h12, h13, h14, h15, h16, hk', intsD]
   refine draw_c mix [] [] (by rfl) ?_
   simp only [zX, Nat.reduceShiftRight, Nat.reduceMod, Nat.reduceLT, Nat.reduceMul, Nat.reduceSub, Int.reduceToNat, Int.reduceNeg, Int.reduceLT, Int.reduceLE, Int.reduceEq, Nat.reduceEqDiff, Nat.reduceAdd, Nat.reduceLeDiff, reduceIte, reduceCtorEq, Nat.reduceBEq, i64, bV, iD, bD, h2, h3, h4, h11, h12, h13, h14, h15, h16, hk', hlt', hg, hsv, Prg.cells, List.length_map]
   refine callC_pure hreal rfl rfl ?_
   simp only [zX, Nat.reduceShiftRight, Nat.reduceMod, Nat.reduceLT, Nat.reduceMul, Nat.reduceSub, Int.reduceToNat, Int.reduceNeg, Int.reduceLT, Int.reduceLE, Int.reduceEq, Nat.reduceEqDiff, Nat.reduceAdd, Nat.reduceLeDiff, reduceIte, reduceCtorEq, Nat.reduceBEq, i64, bV, iD, bD, h2, h3, h4, h11, h12, h13, h14, h15, h16, hk', hlt', hg, hsv, Prg.cells, List.length_map]
   refine callC_pure hr rfl rfl ?_
   simp only [zX, Nat.reduceShiftRight, Nat.reduceMod, Nat.reduceLT, Nat.reduceMul, Nat.reduceSub, Int.reduceToNat, Int.reduceNeg, Int.reduceLT, Int.reduceLE, Int.reduceEq, Nat.reduceEqDiff, Nat.reduceAdd, Nat.reduceLeDiff, reduceIte, reduceCtorEq, Nat.reduceBEq, i64, bV, iD, bD, h2, h3, h4, h11, h12, h13, h14, h15, h16, hk', hlt', hg, hsv, Prg.cells, List.length_map]
   refine draw_c mix [] [] (by rfl) ?_
   simp only [zX, Nat.reduceShiftRight, Nat.reduceMod, Nat.reduceLT, Nat.reduceMul, Nat.reduceSub, Int.reduceToNat, Int.reduceNeg, Int.reduceLT, Int.reduceLE, Int.reduceEq, Nat.reduceEqDiff, Nat.reduceAdd, Nat.reduceLeDiff, reduceIte, reduceCtorEq, Nat.reduceBEq, i64, bV, iD, bD, h2, h3, h4, h11, h12, h13, h14, h15, h16, hk', hlt', hg, hsv, Prg.cells, List.length_map]
   refine callC_pure hf rfl rfl ?_
   simp only [zX, Nat.reduceShiftRight, Nat.reduceMod, Nat.reduceLT, Nat.reduceMul, Nat.reduceSub, Int.reduceToNat, Int.reduceNeg, Int.reduceLT, Int.reduceLE, Int.reduceEq, Nat.reduceEqDiff, Nat.reduceAdd, Nat.reduceLeDiff, reduceIte, reduceCtorEq, Nat.reduceBEq, i64, bV, iD, bD, h2, h3, h4, h11, h12, h13, h14, h15, h16, hk', hlt', hg, hsv, Prg.cells, List.length_map, ne_eq, not_true_eq_false, decide_false]
   refine call_pure hq rfl rfl ?_
   simp only [zX, Nat.reduceShiftRight, Nat.reduceMod, Nat.reduceLT, Nat.reduceMul, Nat.reduceSub, Int.reduceToNat, Int.reduceNeg, Int.reduceLT, Int.reduceLE, Int.reduceEq, Nat.reduceEqDiff, Nat.reduceAdd, Nat.reduceLeDiff, reduceIte, reduceCtorEq, Nat.reduceBEq, i64, bV, iD, bD, h2, h3, h4, h11, h12, h13, h14, h15, h16, Bool.not_true]
   refine loop_rule (fun n e s => ∃ j : Nat, n = A.length - j ∧ j ≤ A.length ∧ e 2 = i64 at_ ∧ e 3 = i64 how ∧ e 4 = i64 by' ∧ e 11 = .d (.sl (L.map Prg.cells)) ∧ e 12 = .d (intsD t) ∧ e 13 = i64 i ∧ e 14 = i64 aa ∧ e 15 = .fu S ∧ e 16 = i64 k ∧ e 17 = .d (intsD A) ∧ e 21 = i64 j ∧ s = [])
    ⟨_, _, _, Cln.refl, 0, rfl, by omega, h2, h3, h4, h11, h12, h13, h14, h15, h16, rfl, rfl, rfl⟩ ?_
   clear hr hf hq
   rintro n e s ⟨j, rfl, hj, h2, h3, h4, h11, h12, h13, h14, h15, h16, h17, h21, rfl⟩
   rcases Nat.lt_or_ge j A.length with hlt3 | hge3
   ·obtain ⟨x, hx⟩ : ∃ x, A[j]? = some x := ⟨_, List.getElem?_eq_getElem hlt3⟩
    obtain ⟨p1, p2, p3, p4⟩ := hpr j x hx
    have hj' : (j : Int) < (A.length : Int) := by omega
    have hj2 : (j : Int) ≤ (A.length : Int) := by omega
    have hhas := has_ok (A.take j) x (by rw [List.length_take]; omega)
    rw [decide_eq_false p1] at hhas
    simp only [intsD, bV, i64, List.map_take] at hhas
    have hins := insAt_get p2 p3
    have hxl : ¬ x < 0 := by omega
    have hxg : ¬ (g.ins.length : Int) ≤ x := by omega
    have wj : IntKind.i64.wrap ((j : Int) + 1) = (j : Int) + 1 := w64 _ (by omega)
    simp only [zX, Nat.reduceShiftRight, Nat.reduceMod, Nat.reduceLT, Nat.reduceMul, Nat.reduceSub, Int.reduceToNat, Int.reduceNeg, Int.reduceLT, Int.reduceLE, Int.reduceEq, Nat.reduceEqDiff, Nat.reduceAdd, Nat.reduceLeDiff, reduceIte, reduceCtorEq, Nat.reduceBEq, i64, bV, iD, bD, h2, h3, h4, h11, h12, h13, h14, h15, h16, h17, h21, hj', intsD, List.length_map]
    refine draw_c mix [] [] (by rfl) ?_
    simp only [zX, Nat.reduceShiftRight, Nat.reduceMod, Nat.reduceLT, Nat.reduceMul, Nat.reduceSub, Int.reduceToNat, Int.reduceNeg, Int.reduceLT, Int.reduceLE, Int.reduceEq, Nat.reduceEqDiff, Nat.reduceAdd, Nat.reduceLeDiff, reduceIte, reduceCtorEq, Nat.reduceBEq, i64, bV, iD, bD, h2, h3, h4, h11, h12, h13, h14, h15, h16, h17, h21, hj', hj2, hx, intsD, List.length_map, Int.sub_zero, Int.toNat_natCast]
    refine callC_pure hhas rfl rfl ?_
    by_cases hlast : (j : Int) + 1 < (A.length : Int)
    ·have hop := p4 (by omega)
     simp only [zX, Nat.reduceShiftRight, Nat.reduceMod, Nat.reduceLT, Nat.reduceMul, Nat.reduceSub, Int.reduceToNat, Int.reduceNeg, Int.reduceLT, Int.reduceLE, Int.reduceEq, Nat.reduceEqDiff, Nat.reduceAdd, Nat.reduceLeDiff, reduceIte, reduceCtorEq, Nat.reduceBEq, i64, bV, iD, bD, h2, h3, h4, h11, h12, h13, h14, h15, h16, h17, h21, hj', hx, hxl, hxg, hlt', hg, Prg.cells, wj, hlast, hins, Ins.cells, p2, p3, hop, intsD, List.length_map, ge_iff_le]
     refine ⟨A.length - (j + 1), _, _, by omega, Cln.refl, j + 1, rfl, hlt3, ?_, ?_, ?_, ?_, ?_, ?_, ?_, ?_, ?_, ?_, ?_, rfl⟩ <;> (try simp only [zU, Nat.reduceBEq, Nat.reduceShiftRight, Nat.reduceMod, Nat.reduceEqDiff, reduceIte])
     ·exact h2
     ·exact h3
     ·exact h4
     ·exact h11
     ·exact h12
     ·exact h13
     ·exact h14
     ·exact h15
     ·exact h16
     ·exact h17
     ·rfl
    ·simp only [zX, Nat.reduceShiftRight, Nat.reduceMod, Nat.reduceLT, Nat.reduceMul, Nat.reduceSub, Int.reduceToNat, Int.reduceNeg, Int.reduceLT, Int.reduceLE, Int.reduceEq, Nat.reduceEqDiff, Nat.reduceAdd, Nat.reduceLeDiff, reduceIte, reduceCtorEq, Nat.reduceBEq, i64, bV, iD, bD, h2, h3, h4, h11, h12, h13, h14, h15, h16, h17, h21, hj', hx, hxl, hxg, hlt', hg, Prg.cells, wj, hlast, intsD, List.length_map, ge_iff_le]
     refine ⟨A.length - (j + 1), _, _, by omega, Cln.refl, j + 1, rfl, hlt3, ?_, ?_, ?_, ?_, ?_, ?_, ?_, ?_, ?_, ?_, ?_, rfl⟩ <;> (try simp only [zU, Nat.reduceBEq, Nat.reduceShiftRight, Nat.reduceMod, Nat.reduceEqDiff, reduceIte])
     ·exact h2
     ·exact h3
     ·exact h4
     ·exact h11
     ·exact h12
     ·exact h13
     ·exact h14
     ·exact h15
     ·exact h16
     ·exact h17
     ·rfl
   ·have hje : j = A.length := by omega
    subst hje
    have hj' : ¬ (A.length : Int) < (A.length : Int) := by omega
    simp only [zX, Nat.reduceShiftRight, Nat.reduceMod, Nat.reduceLT, Nat.reduceMul, Nat.reduceSub, Int.reduceToNat, Int.reduceNeg, Int.reduceLT, Int.reduceLE, Int.reduceEq, Nat.reduceEqDiff, Nat.reduceAdd, Nat.reduceLeDiff, reduceIte, reduceCtorEq, Nat.reduceBEq, i64, bV, iD, bD, h2, h3, h4, h11, h12, h13, h14, h15, h16, h17, h21, hj', intsD, List.length_map]
    refine ⟨4 - (k + 1), _, _, by omega, Cln.refl, k + 1, rfl, hlt2, ?_, ?_, ?_, ?_, ?_, ?_, ?_, ?_, ?_, rfl⟩ <;> (try simp only [zU, Nat.reduceBEq, Nat.reduceShiftRight, Nat.reduceMod, Nat.reduceEqDiff, reduceIte])
    ·exact h2
    ·exact h3
    ·exact h4
    ·exact h11
    ·exact h12
    ·exact h13
    ·exact h14
    ·exact h15
    ·rw [w64 _ (by omega)]; rfl
  ·have hke : k = 4 := by omega
   subst hke
   have hk' : ¬ ((4 : Nat) : Int) < (S.length : Int) := by omega
   simp only [zX, Nat.reduceShiftRight, Nat.reduceMod, Nat.reduceLT, Nat.reduceMul, Nat.reduceSub, Int.reduceToNat, Int.reduceNeg, Int.reduceLT, Int.reduceLE, Int.reduceEq, Nat.reduceEqDiff, Nat.reduceAdd, Nat.reduceLeDiff, reduceIte, reduceCtorEq, Nat.reduceBEq, i64, bV, iD, bD, h2, h3, h4, h11, h12, h13, h14, h15, h16, hk']
   refine ⟨4 - (i + 1), _, _, by omega, Cln.refl, i + 1, rfl, hlt, ?_, ?_, ?_, ?_, ?_, ?_, rfl⟩ <;> (try simp only [zU, Nat.reduceBEq, Nat.reduceShiftRight, Nat.reduceMod, Nat.reduceEqDiff, reduceIte])
   ·exact h2
   ·exact h3
   ·exact h4
   ·exact h11
   ·exact h12
   ·rw [w64 _ (by omega)]; rfl
 ·have hie : i = 4 := by omega
  subst hie
  have hlt' : ¬ ((4 : Nat) : Int) < (L.length : Int) := by omega
  simp only [zX, Nat.reduceShiftRight, Nat.reduceMod, Nat.reduceLT, Nat.reduceMul, Nat.reduceSub, Int.reduceToNat, Int.reduceNeg, Int.reduceLT, Int.reduceLE, Int.reduceEq, Nat.reduceEqDiff, Nat.reduceAdd, Nat.reduceLeDiff, reduceIte, reduceCtorEq, Nat.reduceBEq, i64, bV, iD, bD, h2, h3, h4, h11, h12, h13, hlt', w1, List.length_map, intsD]
  refine call_pure hlv rfl rfl ?_
  simp only [zX, Nat.reduceShiftRight, Nat.reduceMod, Nat.reduceLT, Nat.reduceMul, Nat.reduceSub, Int.reduceToNat, Int.reduceNeg, Int.reduceLT, Int.reduceLE, Int.reduceEq, Nat.reduceEqDiff, Nat.reduceAdd, Nat.reduceLeDiff, reduceIte, reduceCtorEq, Nat.reduceBEq, i64, bV, iD, bD]
end Go.Proofs.Ytdofoappodmcoaa
