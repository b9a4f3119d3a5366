/- A part of the proof (K52). -/
import Derived.Test.YtdofoappodmcoaaKA49
import Derived.Test.YtdofoappodmcoaaKA41
set_option linter.unusedSimpArgs false
set_option linter.unusedVariables false
set_option maxRecDepth 100000
set_option maxHeartbeats 80000000
namespace Go.Proofs.Ytdofoappodmcoaa
open Go.VL Go.Proofs.Try
theorem getL_of {α : Type} {n : Nat} {L : List α} (h : L.length = n) {j : Nat} (hj : j < n) : ∃ x, L[j]? = some x := ⟨L[j]'(by omega), List.getElem?_eq_getElem (by omega)⟩
theorem runR_caps (g : Prg) (t : List Int) (start : Int) (n : Nat) (hn : g.caps.toNat ≤ n) : ∀ (k : Nat) (l : RList) (b : Option Mat), (optM b).c.length ≤ n → (optM (runR g t start k l b)).c.length ≤ n
 | 0, _, _, h => h
 | k + 1, l, b, h => by
  have hb : (optM (bestR g start l b)).c.length ≤ n := by
   unfold bestR
   split
   ·simp [optM, capsOf]; omega
   ·exact h
  rw [runR]
  split
  ·exact hb
  ·exact runR_caps g t start n hn k _ _ hb
theorem runE_caps (g : Prg) (t : List Int) (at_ : Int) : (optM (runE g t at_).1).c.length ≤ 9 := by
 unfold runE
 by_cases h : chkE g t at_ = 0
 ·rw [if_pos h]
  have hg := (chkE_ok h).1
  have := hg.caps1
  exact runR_caps g t at_ 9 (by omega) _ _ _ (by simp [optM])
 ·rw [if_neg h]; simp [optM]
theorem callF_give {P : Program} {f : FuncId} {args cargs : List V} {r : V} {s : List VL.Obj} {K : V → List VL.Obj → Prop} (k : Nat) {o : VL.Obj} (h : PureOK P f cargs r) (ho : s[k]? = some o) (hc : ∀ s' : List VL.Obj, s'[k]? = some { o with live := false } → frzV.go s'.length s' args = some cargs) (ha : refsV.go 0 cargs = true) (hr : refsV 0 r = true)
  (hk : K r (s.set k { o with live := false })) : callF P [k] [k] f args s K := by
 refine ⟨r, [{ o with live := false }], rfl, fun s' _ hs => ?_, hk⟩
 have hs1 : s'[k]? = some o := by rw [hs k (by simp)]; exact ho
 have hlt := (List.getElem?_eq_some_iff.1 hs1).1
 have hkill : killO s' [k] = s'.set k { o with live := false } := by simp [killO, kill1, hs1]
 refine call_give [k] ?_ (call_pure h ha hr ⟨rfl, ?_⟩)
 ·rw [hkill]; exact hc _ (by simp [hlt])
 ·rw [hkill]; rfl
theorem pikeRunsL_ok (l : List Int) (hl : ∀ x ∈ l, I64 x) (m : List Int) (hm : ∀ x ∈ m, I64 x) (at_ how by' : Int) (ha : I64 at_) (hh : I64 how) (hb : I64 by') :
  PureOK prog 3 [.d (intsD l), .d (intsD m), i64 at_, i64 how, i64 by'] (bV true) := by
 obtain ⟨p, t, h, g1, g2, hprog, hP, hcomp, hsm⟩ := programs_ok l m hl hm at_ how by' ha hh hb
 have hvalid := compR_valid p hP.valid hcomp (by have := hP.csz; omega)
 have htl := hP.len
 have hlv := lives11_ok
 have har := around_ok at_ ((t.length : Int) + 1) (by omega) ha
 have w1 : IntKind.i64.wrap ((t.length : Int) + 1) = (t.length : Int) + 1 := w64 _ (by omega)
 have hG : ([compR p, h, g1, g2] : List Prg)[0]? = some (compR p) := rfl
 have hLn : ([compR p, h, g1, g2] : List Prg).length = 4 := rfl
 generalize compR p = g0 at *
 generalize hL : ([g0, h, g1, g2] : List Prg) = L at *
 generalize around at_ ((t.length : Int) + 1) = aa at *
 simp only [progsD, i64, bV] at hprog hlv har
 refine fn_ok func3 rfl ntmps3 results3 rfl 0 20970527 (by simp) (by simp) ?_
 simp only [zX, Nat.reduceShiftRight, Nat.reduceMod, Nat.reduceLT, Nat.reduceMul, Nat.reduceSub, Int.reduceToNat, Int.reduceNeg, Int.reduceLT, Int.reduceLE, Int.reduceEq, Nat.reduceEqDiff, Nat.reduceAdd, Nat.reduceLeDiff, reduceIte, reduceCtorEq, Nat.reduceBEq, i64, bV, iD, bD]
 refine call_pure hprog rfl rfl ?_
 simp only [zX, Nat.reduceShiftRight, Nat.reduceMod, Nat.reduceLT, Nat.reduceMul, Nat.reduceSub, Int.reduceToNat, Int.reduceNeg, Int.reduceLT, Int.reduceLE, Int.reduceEq, Nat.reduceEqDiff, Nat.reduceAdd, Nat.reduceLeDiff, reduceIte, reduceCtorEq, Nat.reduceBEq, i64, bV, iD, bD]
 refine loop_rule (fun n e s => ∃ i : Nat, n = 4 - i ∧ i ≤ 4 ∧ e 2 = i64 at_ ∧ e 4 = i64 by' ∧ e 11 = .d (.sl (L.map Prg.cells)) ∧ e 12 = .d (intsD t) ∧ e 13 = i64 i ∧ s = [])
  ⟨_, _, _, Cln.refl, 0, rfl, by omega, rfl, rfl, rfl, rfl, rfl, rfl⟩ ?_
 rintro n e s ⟨i, rfl, hi, h2, h4, h11, h12, h13, rfl⟩
 rcases Nat.lt_or_ge i 4 with hlt | hge
 ·obtain ⟨g, hg⟩ := getL_of hLn hlt
  have hgs := hsm g (List.mem_of_getElem? hg)
  have hgl := hgs.len
  have hgset : ∀ x ∈ g.ins, x.set.length ≤ 1000000000 := fun x hx => by have := hgs.sets x hx; omega
  have hreal := real_ok g (by omega)
  have hrun := fun s => pikeRun_ok g (by omega) hgset t (by omega) s
  have href := fun s => Run11_ok g (by omega) hgset t (by omega) s
  have heq := fun s => equal_ok (optM (runE g t s).1) (optM (runE g t s).1) (by have := runE_caps g t s; omega)
  simp only [decide_true] at heq
  have hlt' : (i : Int) < (L.length : Int) := by omega
  simp only [prgV_eq, i64, bV, iD, bD, Mat.v] at hreal hrun href heq
  simp only [zX, Nat.reduceShiftRight, Nat.reduceMod, Nat.reduceLT, Nat.reduceMul, Nat.reduceSub, Int.reduceToNat, Int.reduceNeg, Int.reduceLT, Int.reduceLE, Int.reduceEq, Nat.reduceEqDiff, Nat.reduceAdd, Nat.reduceLeDiff, reduceIte, reduceCtorEq, Nat.reduceBEq, i64, bV, iD, bD, h2, h4, h11, h12, h13, hlt', w1, List.length_map, intsD]
  refine call_pure har rfl rfl ?_
  simp only [zX, Nat.reduceShiftRight, Nat.reduceMod, Nat.reduceLT, Nat.reduceMul, Nat.reduceSub, Int.reduceToNat, Int.reduceNeg, Int.reduceLT, Int.reduceLE, Int.reduceEq, Nat.reduceEqDiff, Nat.reduceAdd, Nat.reduceLeDiff, reduceIte, reduceCtorEq, Nat.reduceBEq, i64, bV, iD, bD, h2, h4, h11, h12, h13, intsD, List.length_map]
  obtain ⟨S, hS⟩ : ∃ S : List (List D), S = [[iD 0], [iD aa], [iD by'], [iD t.length]] := ⟨_, rfl⟩
  have hSl : S.length = 4 := by rw [hS]; rfl
  have hSr : ∀ r, r < 4 → ∃ sv : Int, S[r]? = some [.sc (.int .i64 sv)] := by
   intro r hr
   subst hS
   match r, hr with
   | 0, _ => exact ⟨_, rfl⟩
   | 1, _ => exact ⟨_, rfl⟩
   | 2, _ => exact ⟨_, rfl⟩
   | 3, _ => exact ⟨_, rfl⟩
  refine loop_rule (fun n e s => ∃ k : Nat, n = 4 - k ∧ k ≤ 4 ∧ e 2 = i64 at_ ∧ e 4 = i64 by' ∧ e 11 = .d (.sl (L.map Prg.cells)) ∧ e 12 = .d (intsD t) ∧ e 13 = i64 i ∧ e 14 = .fu S ∧ e 15 = i64 k ∧ s = [])
   ⟨_, _, _, Cln.refl, 0, rfl, by omega, h2, h4, h11, h12, h13, by rw [hS]; rfl, rfl, rfl⟩ ?_
  clear hS
  rintro n e s ⟨k, rfl, hk, h2, h4, h11, h12, h13, h14, h15, rfl⟩
  rcases Nat.lt_or_ge k 4 with hlt2 | hge2
  ·obtain ⟨sv, hsv⟩ := hSr k hlt2
   have hr := hrun sv
   have hf := href sv
   have hq := heq sv
   generalize runE g t sv = R at *
   obtain ⟨Rm, Re⟩ := R
   have hk' : (k : Int) < (S.length : Int) := by omega
   simp only [zX, Nat.reduceShiftRight, Nat.reduceMod, Nat.reduceLT, Nat.reduceMul, Nat.reduceSub, Int.reduceToNat, Int.reduceNeg, Int.reduceLT, Int.reduceLE, Int.reduceEq, Nat.reduceEqDiff, Nat.reduceAdd, Nat.reduceLeDiff, reduceIte, reduceCtorEq, Nat.reduceBEq, i64, bV, iD, bD, h2, h4, h11, h12, h13, h14, h15, hk', intsD]
   refine draw_first Cln0.reserve ?_
   refine draw_c mix [] [(15,[0],[0]),(16,[0],[0])] (by rfl) ?_
   simp only [zX, Nat.reduceShiftRight, Nat.reduceMod, Nat.reduceLT, Nat.reduceMul, Nat.reduceSub, Int.reduceToNat, Int.reduceNeg, Int.reduceLT, Int.reduceLE, Int.reduceEq, Nat.reduceEqDiff, Nat.reduceAdd, Nat.reduceLeDiff, reduceIte, reduceCtorEq, Nat.reduceBEq, i64, bV, iD, bD, h2, h4, h11, h12, h13, h14, h15, hk', hlt', hg, hsv, Prg.cells, List.length_map]
   refine callC_pure hreal rfl rfl ?_
   simp only [zX, Nat.reduceShiftRight, Nat.reduceMod, Nat.reduceLT, Nat.reduceMul, Nat.reduceSub, Int.reduceToNat, Int.reduceNeg, Int.reduceLT, Int.reduceLE, Int.reduceEq, Nat.reduceEqDiff, Nat.reduceAdd, Nat.reduceLeDiff, reduceIte, reduceCtorEq, Nat.reduceBEq, i64, bV, iD, bD, h2, h4, h11, h12, h13, h14, h15, hk', hlt', hg, hsv, Prg.cells, List.length_map]
   refine callC_pure hr rfl rfl ?_
   simp only [zX, Nat.reduceShiftRight, Nat.reduceMod, Nat.reduceLT, Nat.reduceMul, Nat.reduceSub, Int.reduceToNat, Int.reduceNeg, Int.reduceLT, Int.reduceLE, Int.reduceEq, Nat.reduceEqDiff, Nat.reduceAdd, Nat.reduceLeDiff, reduceIte, reduceCtorEq, Nat.reduceBEq, i64, bV, iD, bD, h2, h4, h11, h12, h13, h14, h15, hk', hlt', hg, hsv, Prg.cells, List.length_map, hole, Value.oneCell']
   refine draw_first Cln0.reserve ?_
   refine draw_c mix [] [(14,[1],[1]),(15,[1],[1])] (by rfl) ?_
   simp only [zX, Nat.reduceShiftRight, Nat.reduceMod, Nat.reduceLT, Nat.reduceMul, Nat.reduceSub, Int.reduceToNat, Int.reduceNeg, Int.reduceLT, Int.reduceLE, Int.reduceEq, Nat.reduceEqDiff, Nat.reduceAdd, Nat.reduceLeDiff, reduceIte, reduceCtorEq, Nat.reduceBEq, i64, bV, iD, bD, h2, h4, h11, h12, h13, h14, h15, hk', hlt', hg, hsv, Prg.cells, List.length_map]
   refine callC_pure hf rfl rfl ?_
   simp only [zX, Nat.reduceShiftRight, Nat.reduceMod, Nat.reduceLT, Nat.reduceMul, Nat.reduceSub, Int.reduceToNat, Int.reduceNeg, Int.reduceLT, Int.reduceLE, Int.reduceEq, Nat.reduceEqDiff, Nat.reduceAdd, Nat.reduceLeDiff, reduceIte, reduceCtorEq, Nat.reduceBEq, i64, bV, iD, bD, h2, h4, h11, h12, h13, h14, h15, hk', hlt', hg, hsv, Prg.cells, List.length_map, hole, Value.oneCell', ne_eq, not_true_eq_false, decide_false, beq_self_eq_true, Bool.not_true]
   refine call_pure hq rfl rfl ?_
   simp only [zX, Nat.reduceShiftRight, Nat.reduceMod, Nat.reduceLT, Nat.reduceMul, Nat.reduceSub, Int.reduceToNat, Int.reduceNeg, Int.reduceLT, Int.reduceLE, Int.reduceEq, Nat.reduceEqDiff, Nat.reduceAdd, Nat.reduceLeDiff, reduceIte, reduceCtorEq, Nat.reduceBEq, i64, bV, iD, bD, h2, h4, h11, h12, h13, h14, h15, Bool.not_true]
   refine ⟨4 - (k + 1), _, _, by omega, Cln.cut (s' := []) 0 (by omega) rfl rfl [2, 4, 11, 12, 13, 14, 15] ?_, k + 1, rfl, hlt2, ?_, ?_, ?_, ?_, ?_, ?_, ?_, rfl⟩ <;> (try simp only [zU, Nat.reduceBEq, Nat.reduceShiftRight, Nat.reduceMod, Nat.reduceEqDiff, reduceIte])
   ·simp [updE, trimE_app, refsV, h2, h4, h11, h12, h13, h14, i64]
   ·exact h2
   ·exact h4
   ·exact h11
   ·exact h12
   ·exact h13
   ·exact h14
   ·rw [w64 _ (by omega)]; rfl
  ·have hke : k = 4 := by omega
   subst hke
   have hk' : ¬ ((4 : Nat) : Int) < (S.length : Int) := by omega
   simp only [zX, Nat.reduceShiftRight, Nat.reduceMod, Nat.reduceLT, Nat.reduceMul, Nat.reduceSub, Int.reduceToNat, Int.reduceNeg, Int.reduceLT, Int.reduceLE, Int.reduceEq, Nat.reduceEqDiff, Nat.reduceAdd, Nat.reduceLeDiff, reduceIte, reduceCtorEq, Nat.reduceBEq, i64, bV, iD, bD, h2, h4, h11, h12, h13, h14, h15, hk']
   refine ⟨4 - (i + 1), _, _, by omega, Cln.refl, i + 1, rfl, hlt, ?_, ?_, ?_, ?_, ?_, rfl⟩ <;> (try simp only [zU, Nat.reduceBEq, Nat.reduceShiftRight, Nat.reduceMod, Nat.reduceEqDiff, reduceIte])
   ·exact h2
   ·exact h4
   ·exact h11
   ·exact h12
   ·rw [w64 _ (by omega)]; rfl
 ·have hie : i = 4 := by omega
  subst hie
  have hlt' : ¬ ((4 : Nat) : Int) < (L.length : Int) := by omega
  simp only [zX, Nat.reduceShiftRight, Nat.reduceMod, Nat.reduceLT, Nat.reduceMul, Nat.reduceSub, Int.reduceToNat, Int.reduceNeg, Int.reduceLT, Int.reduceLE, Int.reduceEq, Nat.reduceEqDiff, Nat.reduceAdd, Nat.reduceLeDiff, reduceIte, reduceCtorEq, Nat.reduceBEq, i64, bV, iD, bD, h2, h4, h11, h12, h13, hlt', w1, List.length_map, intsD]
  have hgs := hsm g0 (List.mem_of_getElem? hG)
  have hgl := hgs.len
  have hgset : ∀ x ∈ g0.ins, x.set.length ≤ 1000000000 := fun x hx => by have := hgs.sets x hx; omega
  have hreal := real_ok g0 (by omega)
  obtain ⟨N, hN⟩ : ∃ N : Int, N = 65537 := ⟨_, rfl⟩
  obtain ⟨k, hk⟩ : ∃ k : Nat, k = N.toNat := ⟨_, rfl⟩
  have hrun := pikeRun_ok g0 (by omega) hgset (List.replicate k 0) (by rw [List.length_replicate]; omega) 0
  have hE : runE g0 (List.replicate k 0) 0 = (none, 4) := by
   have hc : chkE g0 (List.replicate k 0) 0 = 4 := by
    unfold chkE
    rw [if_neg (fun h => h hvalid), if_pos (by rw [List.length_replicate]; omega)]
   unfold runE
   rw [hc, if_neg (by decide)]
  rw [hE] at hrun
  simp only [prgV_eq, i64, bV, iD, bD, Mat.v, intsD, List.map_replicate, optM, Option.getD_none, Option.isSome_none, capD, List.map_nil] at hreal hrun
  have hl0 : (0 : Int) < (L.length : Int) := by omega
  refine draw_first Cln0.reserve ?_
  refine draw_first Cln0.reserve ?_
  refine draw_c mix [] [(4,[0],[0]),(5,[0],[0]),(10,[1],[1]),(11,[1],[1])] (by rfl) ?_
  rw [← hN]
  simp only [zX, Nat.reduceShiftRight, Nat.reduceMod, Nat.reduceLT, Nat.reduceMul, Nat.reduceSub, Int.reduceToNat, Int.reduceNeg, Int.reduceLT, Int.reduceLE, Int.reduceEq, Nat.reduceEqDiff, Nat.reduceAdd, Nat.reduceLeDiff, reduceIte, reduceCtorEq, Nat.reduceBEq, i64, bV, iD, bD, h2, h4, h11, h12, h13, hl0, hG, Prg.cells, List.length_map]
  refine callC_pure hreal rfl rfl ?_
  simp only [zX, Nat.reduceShiftRight, Nat.reduceMod, Nat.reduceLT, Nat.reduceMul, Nat.reduceSub, Int.reduceToNat, Int.reduceNeg, Int.reduceLT, Int.reduceLE, Int.reduceEq, Nat.reduceEqDiff, Nat.reduceAdd, Nat.reduceLeDiff, reduceIte, reduceCtorEq, Nat.reduceBEq, i64, bV, iD, bD, h2, h4, h11, h12, h13, hl0, hG, Prg.cells, List.length_map, hole, msAt]
  refine ⟨by omega, ?_⟩
  rw [← hk]
  have hfr : List.replicate k [V.d (D.sc (.int .i64 0))] = (List.replicate k [D.sc (.int .i64 0)]).map fun c => c.map V.d := by simp
  refine callF_give 0 hrun rfl (fun s' hs' => ?_) rfl rfl ?_
  ·have hf : frzV s'.length s' (.so 0 1 0 k) = some (.d (.sl (List.replicate k [D.sc (.int .i64 0)]))) := frz_ownK (els := List.replicate k [V.d (D.sc (.int .i64 0))]) hs' (by rw [List.drop_zero, List.take_of_length_le (by simp), hfr]) (by simp) (.inr rfl)
   simp only [frzV.go, hf]
   rfl
  ·simp only [zX, Nat.reduceShiftRight, Nat.reduceMod, Nat.reduceLT, Nat.reduceMul, Nat.reduceSub, Int.reduceToNat, Int.reduceNeg, Int.reduceLT, Int.reduceLE, Int.reduceEq, Nat.reduceEqDiff, Nat.reduceAdd, Nat.reduceLeDiff, reduceIte, reduceCtorEq, Nat.reduceBEq, i64, bV, iD, bD, h2, h4, h11, h12, h13, hole]
   refine call_pure hlv rfl rfl ?_
   simp only [zX, Nat.reduceShiftRight, Nat.reduceMod, Nat.reduceLT, Nat.reduceMul, Nat.reduceSub, Int.reduceToNat, Int.reduceNeg, Int.reduceLT, Int.reduceLE, Int.reduceEq, Nat.reduceEqDiff, Nat.reduceAdd, Nat.reduceLeDiff, reduceIte, reduceCtorEq, Nat.reduceBEq, i64, bV, iD, bD]
end Go.Proofs.Ytdofoappodmcoaa
