/- Part of the proof: the program logic, or what some functions compute (F20 F21 F23 F24 F25). -/
import Derived.Test.YtafbdphblilenaaE3
import Derived.Test.YtafbdphblilenaaE6
import Derived.Test.YtafbdphblilenaaE5
set_option linter.unusedSimpArgs false
set_option linter.unusedVariables false
set_option linter.unusedSimpArgs false
set_option linter.unusedVariables false
namespace Go.Proofs.Ytafbdphblilenaa
open Go.VL

/-- A node with the kids v. -/
def nodeV (re : Re) (v : V) : V := .ag [i64 re.op, .d (.sl (re.set.map spanC)), v, i64 re.mn, i64 re.mx, i64 re.mode, i64 re.n, bV re.neg]

set_option maxRecDepth 100000 in
set_option maxHeartbeats 8000000 in
theorem clone0_ok (re : Re) (hs : re.set.length ≤ 1000000000) : PureOK Try.prog 62 [nodeV re (.fu [])] (nodeV re (.fu [])) := by
  refine fn_keep Try.func62 rfl Try.ntmps62 Try.results62 rfl 0 57391 (by simp) (by simp) ?_
  simp only [vsA, vsB, vsC, appendWp, Nat.reduceShiftRight, Nat.reduceMod, Nat.reduceLT, Nat.reduceMul, Nat.reduceSub, Int.reduceToNat, Int.reduceNeg, Int.reduceLT, Int.reduceLE, Int.reduceEq, Nat.reduceEqDiff, Nat.reduceAdd, Nat.reduceLeDiff, reduceIte, reduceCtorEq, Nat.reduceBEq, tysA, nodeV, i64, bV]
  refine call_pure (cloneSpans_ok re.set hs) (by simp [refsV, refsV.go, reV_eq, i64, bV, reEl]) (by simp [refsV, refsV.go, reV_eq, i64, bV, reEl]) ?_
  simp only [vsA, vsB, vsC, appendWp, Nat.reduceShiftRight, Nat.reduceMod, Nat.reduceLT, Nat.reduceMul, Nat.reduceSub, Int.reduceToNat, Int.reduceNeg, Int.reduceLT, Int.reduceLE, Int.reduceEq, Nat.reduceEqDiff, Nat.reduceAdd, Nat.reduceLeDiff, reduceIte, reduceCtorEq, Nat.reduceBEq, tysA, nodeV, i64, bV]
  refine loop_rule (fun n e s => n = 0 ∧ e 1 = .rf 0 0 0 0 ∧ e 2 = .rf 1 0 0 0 ∧ e 14 = i64 0 ∧ e 15 = i64 0 ∧ s = [cloneO re (.fu []), zeroO])
    ⟨_, _, _, Cln.refl, rfl, rfl, rfl, rfl, rfl, rfl⟩ ?_
  rintro n e s ⟨rfl, h1, h2, h14, h15, rfl⟩
  simp only [vsA, vsB, vsC, appendWp, Nat.reduceShiftRight, Nat.reduceMod, Nat.reduceLT, Nat.reduceMul, Nat.reduceSub, Int.reduceToNat, Int.reduceNeg, Int.reduceLT, Int.reduceLE, Int.reduceEq, Nat.reduceEqDiff, Nat.reduceAdd, Nat.reduceLeDiff, reduceIte, reduceCtorEq, Nat.reduceBEq, tysA, h1, h2, h14, h15, i64, bV, cloneO, zeroO, Nat.lt_irrefl, Qkeep_app, keepWp, refsV, refsV.go, Int.lt_irrefl]
  all_goals first | exact ⟨rfl, rfl⟩ | exact ⟨rfl, trivial⟩ | rfl | trivial | (rw [reV_eq]; rfl)

/-! ### Expand -/

mutual
def Re.exp : Re → Re
  | .mk op set kids mn mx mode n neg =>
    if op = 4 ∧ (decide (mn = 0) && (decide (mx = -1) || decide (mx = 1))) = false then unrollR (.mk op set kids mn mx mode n neg) ((Re.expL kids).headD (.mk 0 [] [] 0 0 0 0 false))
    else .mk op set (Re.expL kids) mn mx mode n neg
def Re.expL : List Re → List Re
  | [] => []
  | k :: l => k.exp :: Re.expL l
end

theorem Re.expL_eq : ∀ l : List Re, Re.expL l = l.map Re.exp
  | [] => by simp [Re.expL]
  | k :: l => by simp [Re.expL, Re.expL_eq l]

def Re.out (re : Re) : Re := .mk re.op re.set (re.kids.map Re.exp) re.mn re.mx re.mode re.n re.neg

theorem Re.exp_keep {re : Re} (h : re.op ≠ 4 ∨ re.kept = true) : re.exp = re.out := by
  cases re with
  | mk op set kids mn mx mode n neg =>
    have : ¬ (op = 4 ∧ (decide (mn = 0) && (decide (mx = -1) || decide (mx = 1))) = false) := by
      rintro ⟨h1, h2⟩
      rcases h with h | h
      · exact h h1
      · have h' : (decide (mn = 0) && (decide (mx = -1) || decide (mx = 1))) = true := h
        rw [h2] at h'; cases h'
    rw [Re.exp, if_neg this, Re.expL_eq]; rfl

theorem Re.exp_un {re : Re} (h4 : re.op = 4) (hk : re.kept = false) {k : Re} {l : List Re} (hl : re.kids = k :: l) : re.exp = unrollR re k.exp := by
  cases re with
  | mk op set kids mn mx mode n neg =>
    have h' : (decide (mn = 0) && (decide (mx = -1) || decide (mx = 1))) = false := hk
    have hl' : kids = k :: l := hl
    rw [Re.exp, if_pos ⟨h4, h'⟩, hl']
    rfl

/-- What unrolling asks of a tree. -/
def exNode (re : Re) : Prop := re.op = 4 → re.kept = false → (re.kids ≠ [] ∧ 0 ≤ re.mn ∧ re.mn ≤ 1000000 ∧ -1 ≤ re.mx ∧ re.mx ≤ 1000000)

def ExpOK (re : Re) : Prop := callWp Try.prog 61 [reV re, .rf 0 0 0 0] [cellO 61] fun v s => v = reV re.exp ∧ s = [cellO 61]

set_option maxRecDepth 100000 in
set_option maxHeartbeats 8000000 in
theorem exp_step (re : Re) (hs : re.fine = true) (ih : ∀ k ∈ re.kids, ExpOK k) (hx : ∀ k ∈ re.kids, k.exp.fine = true) (hn : exNode re) : ExpOK re := by
  obtain ⟨hset1, hlen, hfk⟩ := Re.fine_spec hs
  have hcl := clone0_ok re hset1
  simp only [nodeV, i64, bV] at hcl
  have hkc := kept_ok re
  rw [reEl, Re.cells_eq re] at hkc
  simp only [iD, bD, bV] at hkc
  unfold ExpOK
  refine fn_ok Try.func61 rfl Try.ntmps61 Try.results61 rfl 1 117440607 (by simp) (by simp) ?_
  simp only [vsA, vsB, vsC, appendWp, Nat.reduceShiftRight, Nat.reduceMod, Nat.reduceLT, Nat.reduceMul, Nat.reduceSub, Int.reduceToNat, Int.reduceNeg, Int.reduceLT, Int.reduceLE, Int.reduceEq, Nat.reduceEqDiff, Nat.reduceAdd, Nat.reduceLeDiff, reduceIte, reduceCtorEq, Nat.reduceBEq, tysA, i64, reV_eq re, iD, bD, cellO, bV]
  refine call_pure hcl rfl rfl ?_
  simp only [vsA, vsB, vsC, appendWp, Nat.reduceShiftRight, Nat.reduceMod, Nat.reduceLT, Nat.reduceMul, Nat.reduceSub, Int.reduceToNat, Int.reduceNeg, Int.reduceLT, Int.reduceLE, Int.reduceEq, Nat.reduceEqDiff, Nat.reduceAdd, Nat.reduceLeDiff, reduceIte, reduceCtorEq, Nat.reduceBEq, tysA, i64, bV]
  refine loop_rule (fun n e s => ∃ i : Nat, n = re.kids.length - i ∧ i ≤ re.kids.length ∧ e 1 = .rf 0 0 0 0 ∧ e 2 = .rf 1 0 0 0 ∧ e 3 = .rf 2 0 0 0 ∧ e 4 = .rf 3 0 0 0 ∧ e 24 = .d (.sl (re.kids.map Re.cells)) ∧ e 25 = i64 re.kids.length ∧ e 26 = i64 i ∧
      ((i = 0 ∧ s = [cellO 61, cloneO re (.d (.sl (re.kids.map Re.cells))), zeroO, cloneO re (.fu [])]) ∨
       ∃ g X, objOk 6 X = true ∧ s = [cellO 61, cloneO re (.d (.sl (re.kids.map Re.cells))), zeroO, cloneO re (.so 5 g 0 i), X, arrO g ((re.kids.take i).map Re.exp)]))
    ⟨_, _, _, Cln.refl, 0, rfl, by omega, rfl, rfl, rfl, rfl, rfl, rfl, rfl, .inl ⟨rfl, rfl⟩⟩ ?_
  rintro n e s ⟨i, rfl, hi, h1, h2, h3, h4, h24, h25, h26, hacc⟩
  rcases Nat.lt_or_ge i re.kids.length with hlt | hge
  · obtain ⟨k, hk⟩ : ∃ k, re.kids[i]? = some k := ⟨_, List.getElem?_eq_getElem hlt⟩
    have hm := List.mem_of_getElem? hk
    have htk : (re.kids.take (i + 1)).map Re.exp = (re.kids.take i).map Re.exp ++ [k.exp] := by rw [take_get hk]; simp
    rcases hacc with ⟨rfl, rfl⟩ | ⟨g, X, hX, rfl⟩
    · simp only [vsA, vsB, vsC, appendWp, Nat.reduceShiftRight, Nat.reduceMod, Nat.reduceLT, Nat.reduceMul, Nat.reduceSub, Int.reduceToNat, Int.reduceNeg, Int.reduceLT, Int.reduceLE, Int.reduceEq, Nat.reduceEqDiff, Nat.reduceAdd, Nat.reduceLeDiff, reduceIte, reduceCtorEq, Nat.reduceBEq, tysA, h1, h2, h3, h4, h24, h25, h26, i64, bV, hlt, hk, cloneO, zeroO, cellO]
      refine draw_c mix [6, 8] [(2, [0], []), (4, [0], [0])] (by rfl) ?_
      simp only [vsA, vsB, vsC, appendWp, Nat.reduceShiftRight, Nat.reduceMod, Nat.reduceLT, Nat.reduceMul, Nat.reduceSub, Int.reduceToNat, Int.reduceNeg, Int.reduceLT, Int.reduceLE, Int.reduceEq, Nat.reduceEqDiff, Nat.reduceAdd, Nat.reduceLeDiff, reduceIte, reduceCtorEq, Nat.reduceBEq, tysA, h1, h2, h3, h4, h24, h25, h26, i64, bV]
      refine callF_one (ih k hm) (by simp [renV, renV_reV]) (by simp [refsV, refsV.go, reV_eq, i64, bV, reEl]) rfl rfl rfl (renV_reV _ _) ?_
      simp only [vsA, vsB, vsC, appendWp, Nat.reduceShiftRight, Nat.reduceMod, Nat.reduceLT, Nat.reduceMul, Nat.reduceSub, Int.reduceToNat, Int.reduceNeg, Int.reduceLT, Int.reduceLE, Int.reduceEq, Nat.reduceEqDiff, Nat.reduceAdd, Nat.reduceLeDiff, reduceIte, reduceCtorEq, Nat.reduceBEq, tysA, h1, h2, h3, h4, h24, h25, h26, i64, bV]
      refine ⟨fun x hx => by rw [List.mem_singleton.1 hx]; simp [Re.cells_len], by simp, re.kids.length - 1, _, _, by omega, Cln.refl, 1, rfl, by omega, ?_, ?_, ?_, ?_, ?_, ?_, ?_, .inr ⟨0, _, ?_, by rw [htk]; rfl⟩⟩ <;> (try simp only [keepE_app, List.contains_cons, List.contains_nil, Nat.reduceBEq, Bool.or_false, Bool.false_or, Bool.or_true, Bool.true_or, updE, trimE_upd, trimE_trim, trimE_app, Nat.reduceShiftRight, Nat.reduceMod, Nat.reduceEqDiff, if_true, if_false, reduceIte])
      · exact h1
      · exact h2
      · exact h3
      · exact h4
      · exact h24
      · exact h25
      · rw [w64 _ (by omega)]; rfl
      · simp [refsV]
    · simp only [vsA, vsB, vsC, appendWp, Nat.reduceShiftRight, Nat.reduceMod, Nat.reduceLT, Nat.reduceMul, Nat.reduceSub, Int.reduceToNat, Int.reduceNeg, Int.reduceLT, Int.reduceLE, Int.reduceEq, Nat.reduceEqDiff, Nat.reduceAdd, Nat.reduceLeDiff, reduceIte, reduceCtorEq, Nat.reduceBEq, tysA, h1, h2, h3, h4, h24, h25, h26, i64, bV, hlt, hk, cloneO, zeroO, cellO, arrO]
      refine draw_c mix [6, 8] [(2, [0], []), (4, [0], [0])] (by rfl) ?_
      simp only [vsA, vsB, vsC, appendWp, Nat.reduceShiftRight, Nat.reduceMod, Nat.reduceLT, Nat.reduceMul, Nat.reduceSub, Int.reduceToNat, Int.reduceNeg, Int.reduceLT, Int.reduceLE, Int.reduceEq, Nat.reduceEqDiff, Nat.reduceAdd, Nat.reduceLeDiff, reduceIte, reduceCtorEq, Nat.reduceBEq, tysA, h1, h2, h3, h4, h24, h25, h26, i64, bV]
      refine callF_one (ih k hm) (by simp [renV, renV_reV]) (by simp [refsV, refsV.go, reV_eq, i64, bV, reEl]) rfl rfl rfl (renV_reV _ _) ?_
      simp only [vsA, vsB, vsC, appendWp, Nat.reduceShiftRight, Nat.reduceMod, Nat.reduceLT, Nat.reduceMul, Nat.reduceSub, Int.reduceToNat, Int.reduceNeg, Int.reduceLT, Int.reduceLE, Int.reduceEq, Nat.reduceEqDiff, Nat.reduceAdd, Nat.reduceLeDiff, reduceIte, reduceCtorEq, Nat.reduceBEq, tysA, h1, h2, h3, h4, h24, h25, h26, i64, bV]
      have hcut : (((((re.kids.take i).map Re.exp).map Re.cells).map fun c => c.map V.d).take i) = (((re.kids.take i).map Re.exp).map Re.cells).map fun c => c.map V.d := List.take_of_length_le (by simp; omega)
      rw [hcut]
      refine ⟨fun x hx => by rw [List.mem_singleton.1 hx]; simp [Re.cells_len], ⟨by simp; omega, by omega⟩, re.kids.length - (i + 1), _, _, by omega, Cln.cut 6 (by omega) rfl ?_ [1, 2, 3, 4, 24, 25, 26] ?_, i + 1, rfl, by omega, ?_, ?_, ?_, ?_, ?_, ?_, ?_, .inr ⟨g + 1, X, hX, ?_⟩⟩ <;> (try simp only [keepE_app, List.contains_cons, List.contains_nil, Nat.reduceBEq, Bool.or_false, Bool.false_or, Bool.or_true, Bool.true_or, updE, trimE_upd, trimE_trim, trimE_app, Nat.reduceShiftRight, Nat.reduceMod, Nat.reduceEqDiff, if_true, if_false, reduceIte])
      · simp only [objOk] at hX
        simp [objOk, refsV, refsV.go, hX, cellO]
        intro x hx y hy
        obtain ⟨r, _, rfl⟩ := List.mem_map.1 (List.mem_of_mem_take hx)
        obtain ⟨d, _, rfl⟩ := List.mem_map.1 hy
        rfl
      · simp [updE, trimE_app, refsV, h1, h2, h3, h4, h24, h25, i64]
      · exact h1
      · exact h2
      · exact h3
      · exact h4
      · exact h24
      · exact h25
      · rw [w64 _ (by omega)]; rfl
      · rw [htk]
        simp [cellO]
  have hie : i = re.kids.length := by omega
  subst hie
  by_cases o4 : re.op = 4
  · cases hkp : re.kept with
    | true =>
      rw [Re.exp_keep (.inr hkp)]
      rcases hacc with ⟨hz, rfl⟩ | ⟨g, X, hX, rfl⟩
      · simp only [vsA, vsB, vsC, appendWp, Nat.reduceShiftRight, Nat.reduceMod, Nat.reduceLT, Nat.reduceMul, Nat.reduceSub, Int.reduceToNat, Int.reduceNeg, Int.reduceLT, Int.reduceLE, Int.reduceEq, Nat.reduceEqDiff, Nat.reduceAdd, Nat.reduceLeDiff, reduceIte, reduceCtorEq, Nat.reduceBEq, tysA, h1, h2, h3, h4, h24, h25, h26, i64, bV, cloneO, zeroO, cellO, arrO, Nat.lt_irrefl, o4]
        refine call_give [1] rfl ?_
        refine call_pure (o4 ▸ hkc) rfl rfl ?_
        simp only [vsA, vsB, vsC, appendWp, Nat.reduceShiftRight, Nat.reduceMod, Nat.reduceLT, Nat.reduceMul, Nat.reduceSub, Int.reduceToNat, Int.reduceNeg, Int.reduceLT, Int.reduceLE, Int.reduceEq, Nat.reduceEqDiff, Nat.reduceAdd, Nat.reduceLeDiff, reduceIte, reduceCtorEq, Nat.reduceBEq, tysA, h1, h2, h3, h4, h24, h25, h26, i64, bV, cloneO, zeroO, cellO, arrO, hkp, killO, kill1]
        have hk0 : re.kids = [] := List.eq_nil_of_length_eq_zero hz
        rw [reV_eq, show re.out.op = 4 from o4, show re.out.kids = re.kids.map Re.exp from rfl, hk0]
        rfl
      · simp only [vsA, vsB, vsC, appendWp, Nat.reduceShiftRight, Nat.reduceMod, Nat.reduceLT, Nat.reduceMul, Nat.reduceSub, Int.reduceToNat, Int.reduceNeg, Int.reduceLT, Int.reduceLE, Int.reduceEq, Nat.reduceEqDiff, Nat.reduceAdd, Nat.reduceLeDiff, reduceIte, reduceCtorEq, Nat.reduceBEq, tysA, h1, h2, h3, h4, h24, h25, h26, i64, bV, cloneO, zeroO, cellO, arrO, Nat.lt_irrefl, o4]
        refine call_give [1] rfl ?_
        refine call_pure (o4 ▸ hkc) rfl rfl ?_
        simp only [vsA, vsB, vsC, appendWp, Nat.reduceShiftRight, Nat.reduceMod, Nat.reduceLT, Nat.reduceMul, Nat.reduceSub, Int.reduceToNat, Int.reduceNeg, Int.reduceLT, Int.reduceLE, Int.reduceEq, Nat.reduceEqDiff, Nat.reduceAdd, Nat.reduceLeDiff, reduceIte, reduceCtorEq, Nat.reduceBEq, tysA, h1, h2, h3, h4, h24, h25, h26, i64, bV, cloneO, zeroO, cellO, arrO, hkp, killO, kill1]
        rw [List.take_length, frz_data 7 1 _ _ _ (by simp), if_pos (by omega), reV_eq, show re.out.op = 4 from o4]
        rfl
    | false =>
      obtain ⟨hne, n0, n1, n2, n3⟩ := hn o4 hkp
      obtain ⟨k, l, hkl⟩ := List.exists_cons_of_ne_nil hne
      rw [Re.exp_un o4 hkp hkl]
      have hun := unroll_ok re k.exp (hx k (by rw [hkl]; simp)) n0 n1 n2 n3
      rw [reEl, Re.cells_eq re] at hun
      simp only [iD, bD] at hun
      have hp0 : 0 < re.kids.length := by rw [hkl]; simp
      have hp0' : (0 : Int) < (re.kids.length : Int) := by omega
      have hk0 : (re.kids.take re.kids.length)[0]? = some k := by rw [List.take_length, hkl]; rfl
      rcases hacc with ⟨hz, rfl⟩ | ⟨g, X, hX, rfl⟩
      · omega
      · simp only [vsA, vsB, vsC, appendWp, Nat.reduceShiftRight, Nat.reduceMod, Nat.reduceLT, Nat.reduceMul, Nat.reduceSub, Int.reduceToNat, Int.reduceNeg, Int.reduceLT, Int.reduceLE, Int.reduceEq, Nat.reduceEqDiff, Nat.reduceAdd, Nat.reduceLeDiff, reduceIte, reduceCtorEq, Nat.reduceBEq, tysA, h1, h2, h3, h4, h24, h25, h26, i64, bV, cloneO, zeroO, cellO, arrO, Nat.lt_irrefl, o4]
        refine call_give [1] rfl ?_
        refine call_pure (o4 ▸ hkc) rfl rfl ?_
        simp only [vsA, vsB, vsC, appendWp, Nat.reduceShiftRight, Nat.reduceMod, Nat.reduceLT, Nat.reduceMul, Nat.reduceSub, Int.reduceToNat, Int.reduceNeg, Int.reduceLT, Int.reduceLE, Int.reduceEq, Nat.reduceEqDiff, Nat.reduceAdd, Nat.reduceLeDiff, reduceIte, reduceCtorEq, Nat.reduceBEq, tysA, h1, h2, h3, h4, h24, h25, h26, i64, bV, cloneO, zeroO, cellO, arrO, hkp, killO, kill1, hp0, hp0', hk0]
        refine call_give [1] ?_ (call_pure (o4 ▸ hun) (by simp [refsV, refsV.go, reV_eq]) (by simp [refsV, refsV.go, reV_eq, i64, bV, reEl]) ?_)
        · rw [reV_eq k.exp]; rfl
        simp only [vsA, vsB, vsC, appendWp, Nat.reduceShiftRight, Nat.reduceMod, Nat.reduceLT, Nat.reduceMul, Nat.reduceSub, Int.reduceToNat, Int.reduceNeg, Int.reduceLT, Int.reduceLE, Int.reduceEq, Nat.reduceEqDiff, Nat.reduceAdd, Nat.reduceLeDiff, reduceIte, reduceCtorEq, Nat.reduceBEq, tysA, h1, h2, h3, h4, h24, h25, h26, i64, bV, cloneO, zeroO, cellO, arrO, killO, kill1]
        all_goals first | exact ⟨rfl, rfl⟩ | exact ⟨rfl, trivial⟩ | rfl | trivial | (rw [reV_eq]; rfl)
  · rw [Re.exp_keep (.inl o4)]
    rcases hacc with ⟨hz, rfl⟩ | ⟨g, X, hX, rfl⟩
    · simp only [vsA, vsB, vsC, appendWp, Nat.reduceShiftRight, Nat.reduceMod, Nat.reduceLT, Nat.reduceMul, Nat.reduceSub, Int.reduceToNat, Int.reduceNeg, Int.reduceLT, Int.reduceLE, Int.reduceEq, Nat.reduceEqDiff, Nat.reduceAdd, Nat.reduceLeDiff, reduceIte, reduceCtorEq, Nat.reduceBEq, tysA, h1, h2, h3, h4, h24, h25, h26, i64, bV, cloneO, zeroO, cellO, arrO, Nat.lt_irrefl, o4]
      have hk0 : re.kids = [] := List.eq_nil_of_length_eq_zero hz
      rw [Re.out, hk0, reV_eq]
      rfl
    · simp only [vsA, vsB, vsC, appendWp, Nat.reduceShiftRight, Nat.reduceMod, Nat.reduceLT, Nat.reduceMul, Nat.reduceSub, Int.reduceToNat, Int.reduceNeg, Int.reduceLT, Int.reduceLE, Int.reduceEq, Nat.reduceEqDiff, Nat.reduceAdd, Nat.reduceLeDiff, reduceIte, reduceCtorEq, Nat.reduceBEq, tysA, h1, h2, h3, h4, h24, h25, h26, i64, bV, cloneO, zeroO, cellO, arrO, Nat.lt_irrefl, o4]
      rw [List.take_length, frz_data 7 1 _ _ _ (by simp), if_pos (by omega), reV_eq]
      rfl

end Go.Proofs.Ytafbdphblilenaa

set_option linter.unusedSimpArgs false
set_option linter.unusedVariables false
namespace Go.Proofs.Ytafbdphblilenaa
open Go.VL

mutual
def Re.every (p : Re → Bool) : Re → Bool
  | .mk op set kids mn mx mode n neg => p (.mk op set kids mn mx mode n neg) && Re.everyL p kids
def Re.everyL (p : Re → Bool) : List Re → Bool
  | [] => true
  | k :: l => Re.every p k && Re.everyL p l
end

theorem Re.everyL_all (p : Re → Bool) : ∀ l : List Re, Re.everyL p l = l.all (Re.every p)
  | [] => rfl
  | k :: l => by simp [Re.everyL, Re.everyL_all p l]

theorem Re.every_iff {p : Re → Bool} (re : Re) : re.every p = true ↔ p re = true ∧ ∀ k ∈ re.kids, k.every p = true := by
  cases re with
  | mk op set kids mn mx mode n neg => simp only [Re.every, Bool.and_eq_true, Re.everyL_all, List.all_eq_true, Re.kids]

/-- What unrolling asks of each node. -/
def exq (re : Re) : Bool := decide (re.set.length ≤ 1000000000 ∧ re.kids.length ≤ 1000000000 ∧ (re.op = 4 → 0 ≤ re.mn ∧ re.mn ≤ 1000000 ∧ -1 ≤ re.mx ∧ re.mx ≤ 1000000))

theorem fine_of_exq (re : Re) (h : re.every exq = true) : re.fine = true := by
  revert h
  refine Re.ind (Q := fun re => re.every exq = true → re.fine = true) (fun re ih h => ?_) re
  obtain ⟨h1, h2⟩ := (Re.every_iff re).1 h
  have h1 := of_decide_eq_true h1
  exact (Re.fine_iff re).2 ⟨h1.1, h1.2.1, fun k hk => ih k hk (h2 k hk)⟩

theorem rept_fine {x : Re} (h : x.fine = true) (most mode : Int) : (rept x most mode).fine = true := by
  rw [Re.fine_iff]
  refine ⟨by simp [rept, Re.set], by simp [rept, Re.kids], fun k hk => ?_⟩
  have : k = x := by simpa [rept, Re.kids] using hk
  rw [this]; exact h

theorem join_fine {l : List Re} (h : ∀ x ∈ l, x.fine = true) (hl : l.length ≤ 1000000000) : (joinR l).fine = true := by
  unfold joinR
  split
  · exact h _ (by simp)
  · rw [Re.fine_iff]
    exact ⟨by simp [Re.set], hl, h⟩

theorem rest_fine {x : Re} (h : x.fine = true) (mode : Int) : ∀ j, (restR mode x j).fine = true
  | 0 => rept_fine h _ _
  | j + 1 => rept_fine (join_fine (fun y hy => by
      rcases List.mem_cons.1 hy with rfl | hy
      · exact h
      · rw [List.mem_singleton.1 hy]; exact rest_fine h mode j) (by simp)) _ _

theorem unroll_fine {re x : Re} (h : x.fine = true) (h0 : 0 ≤ re.mn) (h1 : re.mn ≤ 1000000) : (unrollR re x).fine = true := by
  unfold unrollR
  have hn : re.mn.toNat ≤ 1000000 := by omega
  refine join_fine (fun y hy => ?_) ?_
  · rcases List.mem_append.1 hy with hy | hy
    · rw [(List.mem_replicate.1 hy).2]; exact h
    · split at hy
      · rw [List.mem_singleton.1 hy]; exact rept_fine h _ _
      · split at hy
        · rw [List.mem_singleton.1 hy]; exact rest_fine h _ _
        · cases hy
  · rw [List.length_append, List.length_replicate]
    split
    · simp; omega
    · split <;> simp <;> omega

theorem exa_spec {re : Re} (h : re.exa = true) : (re.op = 4 → re.kids.length = 1) ∧ ∀ k ∈ re.kids, k.exa = true := by
  rw [Re.exa_eq, Bool.and_eq_true, List.all_eq_true] at h
  refine ⟨fun o => ?_, h.2⟩
  have h1 := h.1
  simp only [exaNode, o] at h1
  by_cases hl : re.kids.length = 1
  · exact hl
  · simp [hl] at h1

theorem exp_both (re : Re) (h : re.every exq = true) (ha : re.exa = true) : re.exp.fine = true ∧ ExpOK re := by
  revert h ha
  refine Re.ind (Q := fun re => re.every exq = true → re.exa = true → re.exp.fine = true ∧ ExpOK re) (fun re ih h ha => ?_) re
  have hf := fine_of_exq re h
  obtain ⟨h1, h2⟩ := (Re.every_iff re).1 h
  have h1 := of_decide_eq_true h1
  obtain ⟨a1, a2⟩ := exa_spec ha
  have hx : ∀ k ∈ re.kids, k.exp.fine = true := fun k hk => (ih k hk (h2 k hk) (a2 k hk)).1
  have hn : exNode re := fun o _ => ⟨fun he => (by have := a1 o; rw [he] at this; cases this), h1.2.2 o⟩
  refine ⟨?_, exp_step re hf (fun k hk => (ih k hk (h2 k hk) (a2 k hk)).2) hx hn⟩
  by_cases hk : re.op = 4 ∧ re.kept = false
  · obtain ⟨hne, n0, n1, _, _⟩ := hn hk.1 hk.2
    obtain ⟨k, l, hkl⟩ := List.exists_cons_of_ne_nil hne
    rw [Re.exp_un hk.1 hk.2 hkl]
    exact unroll_fine (hx k (by rw [hkl]; simp)) n0 n1
  · rw [Re.exp_keep (by
      by_cases o : re.op = 4
      · right; cases hkk : re.kept with
        | true => rfl
        | false => exact absurd ⟨o, hkk⟩ hk
      · exact .inl o), Re.fine_iff]
    refine ⟨h1.1, by simpa [Re.out, Re.kids] using h1.2.1, fun y hy => ?_⟩
    obtain ⟨k, hk, rfl⟩ := List.mem_map.1 (show y ∈ re.kids.map Re.exp from hy)
    exact hx k hk

def zeroR : Re := .mk 0 [] [] 0 0 0 0 false

def expandR (re : Re) : Re × Int := if re.exa = false then (zeroR, 10) else if 4096 < re.esz then (zeroR, 4) else (re.exp, 0)

set_option maxRecDepth 100000 in
set_option maxHeartbeats 8000000 in
theorem expand_ok (re : Re) (h : re.every exq = true) : PureOK Try.prog 16 [reV re] (.tu [reV (expandR re).1, i64 (expandR re).2]) := by
  have hf := fine_of_exq re h
  have hea := expandable_ok re hf
  have hes := expandedSize_ok re hf
  rw [reEl, Re.cells_eq re] at hea hes
  simp only [iD, bD, bV, i64] at hea hes
  refine fn_ok Try.func16 rfl Try.ntmps16 Try.results16 rfl 0 31 (by simp) (by simp) ?_
  simp only [vsA, vsB, vsC, appendWp, Nat.reduceShiftRight, Nat.reduceMod, Nat.reduceLT, Nat.reduceMul, Nat.reduceSub, Int.reduceToNat, Int.reduceNeg, Int.reduceLT, Int.reduceLE, Int.reduceEq, Nat.reduceEqDiff, Nat.reduceAdd, Nat.reduceLeDiff, reduceIte, reduceCtorEq, Nat.reduceBEq, tysA, i64, reV_eq re, iD, bD]
  refine call_give [0] rfl ?_
  refine call_pure hea rfl rfl ?_
  cases hx : re.exa with
  | false =>
    simp only [vsA, vsB, vsC, appendWp, Nat.reduceShiftRight, Nat.reduceMod, Nat.reduceLT, Nat.reduceMul, Nat.reduceSub, Int.reduceToNat, Int.reduceNeg, Int.reduceLT, Int.reduceLE, Int.reduceEq, Nat.reduceEqDiff, Nat.reduceAdd, Nat.reduceLeDiff, reduceIte, reduceCtorEq, Nat.reduceBEq, tysA, hx, killO, kill1, i64]
    rw [expandR, if_pos hx, zeroR, reV_eq]
    rfl
  | true =>
    have hx' : ¬ re.exa = false := by rw [hx]; decide
    obtain ⟨_, hok⟩ := exp_both re h hx
    unfold ExpOK at hok
    rw [reV_eq re] at hok
    simp only [iD, bD] at hok
    simp only [vsA, vsB, vsC, appendWp, Nat.reduceShiftRight, Nat.reduceMod, Nat.reduceLT, Nat.reduceMul, Nat.reduceSub, Int.reduceToNat, Int.reduceNeg, Int.reduceLT, Int.reduceLE, Int.reduceEq, Nat.reduceEqDiff, Nat.reduceAdd, Nat.reduceLeDiff, reduceIte, reduceCtorEq, Nat.reduceBEq, tysA, hx, killO, kill1, i64]
    refine call_give [0] rfl ?_
    refine call_pure hes rfl rfl ?_
    by_cases hz : 4096 < re.esz
    · simp only [vsA, vsB, vsC, appendWp, Nat.reduceShiftRight, Nat.reduceMod, Nat.reduceLT, Nat.reduceMul, Nat.reduceSub, Int.reduceToNat, Int.reduceNeg, Int.reduceLT, Int.reduceLE, Int.reduceEq, Nat.reduceEqDiff, Nat.reduceAdd, Nat.reduceLeDiff, reduceIte, reduceCtorEq, Nat.reduceBEq, tysA, hx, killO, kill1, i64, hz]
      rw [expandR, if_neg hx', if_pos hz, zeroR, reV_eq]
      rfl
    · simp only [vsA, vsB, vsC, appendWp, Nat.reduceShiftRight, Nat.reduceMod, Nat.reduceLT, Nat.reduceMul, Nat.reduceSub, Int.reduceToNat, Int.reduceNeg, Int.reduceLT, Int.reduceLE, Int.reduceEq, Nat.reduceEqDiff, Nat.reduceAdd, Nat.reduceLeDiff, reduceIte, reduceCtorEq, Nat.reduceBEq, tysA, hx, killO, kill1, i64, hz]
      rw [expandR, if_neg hx', if_neg hz]
      refine call_at (r' := reV re.exp) 2 hok rfl rfl rfl rfl (renV_reV _ _) ?_
      simp only [vsA, vsB, vsC, appendWp, Nat.reduceShiftRight, Nat.reduceMod, Nat.reduceLT, Nat.reduceMul, Nat.reduceSub, Int.reduceToNat, Int.reduceNeg, Int.reduceLT, Int.reduceLE, Int.reduceEq, Nat.reduceEqDiff, Nat.reduceAdd, Nat.reduceLeDiff, reduceIte, reduceCtorEq, Nat.reduceBEq, tysA, killO, kill1, renO, renV, renV.go, cellO, i64]
      simp only [vsA, vsB, vsC, appendWp, Nat.reduceShiftRight, Nat.reduceMod, Nat.reduceLT, Nat.reduceMul, Nat.reduceSub, Int.reduceToNat, Int.reduceNeg, Int.reduceLT, Int.reduceLE, Int.reduceEq, Nat.reduceEqDiff, Nat.reduceAdd, Nat.reduceLeDiff, reduceIte, reduceCtorEq, Nat.reduceBEq, tysA, reV_eq re.exp, iD, bD]
      all_goals first | exact ⟨rfl, rfl⟩ | exact ⟨rfl, trivial⟩ | rfl | trivial | (rw [reV_eq]; rfl)

end Go.Proofs.Ytafbdphblilenaa

set_option linter.unusedSimpArgs false
set_option linter.unusedVariables false
namespace Go.Proofs.Ytafbdphblilenaa
open Go.VL

/-- The numbers of a node, in the order of comparison: the first ones. -/
def ordP (re : Re) (l : List (Int × Int)) : List Int := [re.op, re.set.length] ++ l.flatMap fun s => [s.1, s.2]
def ordL (re : Re) : List Int := ordP re re.set ++ [re.mn, re.mx, re.mode, re.n, if re.neg then 1 else 0, re.kids.length]

def boxR (x : Re) : VL.Obj := ⟨0, true, 8, [x.cells.map .d]⟩

def intArr (g : Nat) (l : List Int) : VL.Obj := ⟨g, true, 1, (l.map fun x => [iD x]).map fun c => c.map V.d⟩

theorem ordP_len (re : Re) (l : List (Int × Int)) : (ordP re l).length = 2 + 2 * l.length := by
  simp only [ordP, List.length_append, List.length_cons, List.length_nil]
  induction l with
  | nil => simp
  | cons x l ih => simp only [List.flatMap_cons, List.length_append, List.length_cons, List.length_nil] at ih ⊢; omega

theorem ordP_snoc (re : Re) (l : List (Int × Int)) (x : Int × Int) : ordP re (l ++ [x]) = ordP re l ++ [x.1, x.2] := by
  simp [ordP]

set_option maxRecDepth 100000 in
set_option maxHeartbeats 8000000 in
theorem order_ok (re : Re) (hs : re.set.length ≤ 1000000000) (hk : re.kids.length ≤ 1000000000) : PureOK Try.prog 68 [reV re] (.d (intsD (ordL re))) := by
  refine fn_ok Try.func68 rfl Try.ntmps68 Try.results68 rfl 0 63 (by simp) (by simp) ?_
  cases hng : re.neg
  all_goals
    simp only [vsA, vsB, vsC, appendWp, Nat.reduceShiftRight, Nat.reduceMod, Nat.reduceLT, Nat.reduceMul, Nat.reduceSub, Int.reduceToNat, Int.reduceNeg, Int.reduceLT, Int.reduceLE, Int.reduceEq, Nat.reduceEqDiff, Nat.reduceAdd, Nat.reduceLeDiff, reduceIte, reduceCtorEq, Nat.reduceBEq, tysA, i64, reV_eq re, iD, bD, hng]
    refine loop_rule (fun n e s => ∃ i : Nat, n = re.set.length - i ∧ i ≤ re.set.length ∧ e 1 = .rf 0 0 0 0 ∧ e 3 = i64 (if re.neg then 1 else 0) ∧ e 5 = i64 i ∧
        ((i = 0 ∧ e 4 = .fu [[iD re.op], [iD re.set.length]] ∧ s = [boxR re]) ∨ ∃ g, e 4 = .so 1 g 0 (2 + 2 * i) ∧ s = [boxR re, intArr g (ordP re (re.set.take i))]))
      ⟨_, _, _, Cln.refl, 0, rfl, by omega, rfl, by rw [hng]; rfl, rfl, .inl ⟨rfl, rfl, by rw [boxR, Re.cells_eq]; simp [hng, iD, bD]⟩⟩ ?_
    rintro n e s ⟨i, rfl, hi, h1, h3, h5, hacc⟩
    rcases Nat.lt_or_ge i re.set.length with hlt | hge
    · obtain ⟨k, hk'⟩ : ∃ k, re.set[i]? = some k := ⟨_, List.getElem?_eq_getElem hlt⟩
      have hl := ordP_len re (re.set.take i)
      rw [List.length_take_of_le hi] at hl
      rcases hacc with ⟨rfl, h4, rfl⟩ | ⟨g, h4, rfl⟩
      · simp only [vsA, vsB, vsC, appendWp, Nat.reduceShiftRight, Nat.reduceMod, Nat.reduceLT, Nat.reduceMul, Nat.reduceSub, Int.reduceToNat, Int.reduceNeg, Int.reduceLT, Int.reduceLE, Int.reduceEq, Nat.reduceEqDiff, Nat.reduceAdd, Nat.reduceLeDiff, reduceIte, reduceCtorEq, Nat.reduceBEq, tysA, i64, iD, bD, boxR, Re.cells_eq re, intArr, spanC, h1, h3, h4, h5, hlt, hk']
        refine draw_c mix [14] [] (by rfl) ?_
        simp only [vsA, vsB, vsC, appendWp, Nat.reduceShiftRight, Nat.reduceMod, Nat.reduceLT, Nat.reduceMul, Nat.reduceSub, Int.reduceToNat, Int.reduceNeg, Int.reduceLT, Int.reduceLE, Int.reduceEq, Nat.reduceEqDiff, Nat.reduceAdd, Nat.reduceLeDiff, reduceIte, reduceCtorEq, Nat.reduceBEq, tysA, i64, iD, bD, boxR, Re.cells_eq re, intArr, spanC, h1, h3, h4, h5, hlt, hk']
        refine ⟨by simp, by simp, re.set.length - 1, _, _, by omega, Cln.refl, 1, rfl, by omega, ?_, ?_, ?_, .inr ⟨0, ?_, ?_⟩⟩ <;> (try simp only [keepE_app, List.contains_cons, List.contains_nil, Nat.reduceBEq, Bool.or_false, Bool.false_or, Bool.or_true, Bool.true_or, updE, trimE_upd, trimE_trim, trimE_app, Nat.reduceShiftRight, Nat.reduceMod, Nat.reduceEqDiff, if_true, if_false, reduceIte])
        · exact h1
        · exact h3
        · rw [w64 _ (by omega)]; rfl
        · rw [take_get hk', ordP_snoc]; simp [ordP]
      · simp only [vsA, vsB, vsC, appendWp, Nat.reduceShiftRight, Nat.reduceMod, Nat.reduceLT, Nat.reduceMul, Nat.reduceSub, Int.reduceToNat, Int.reduceNeg, Int.reduceLT, Int.reduceLE, Int.reduceEq, Nat.reduceEqDiff, Nat.reduceAdd, Nat.reduceLeDiff, reduceIte, reduceCtorEq, Nat.reduceBEq, tysA, i64, iD, bD, boxR, Re.cells_eq re, intArr, spanC, h1, h3, h4, h5, hlt, hk']
        refine draw_c mix [14] [] (by rfl) ?_
        simp only [vsA, vsB, vsC, appendWp, Nat.reduceShiftRight, Nat.reduceMod, Nat.reduceLT, Nat.reduceMul, Nat.reduceSub, Int.reduceToNat, Int.reduceNeg, Int.reduceLT, Int.reduceLE, Int.reduceEq, Nat.reduceEqDiff, Nat.reduceAdd, Nat.reduceLeDiff, reduceIte, reduceCtorEq, Nat.reduceBEq, tysA, i64, iD, bD, boxR, Re.cells_eq re, intArr, spanC, h1, h3, h4, h5, hlt, hk']
        have hcut : ((((ordP re (re.set.take i)).map fun x => [D.sc (Value.int .i64 x)]).map fun c => c.map V.d).take (2 + 2 * i)) = (((ordP re (re.set.take i)).map fun x => [D.sc (Value.int .i64 x)]).map fun c => c.map V.d) := List.take_of_length_le (by simp [hl])
        rw [hcut]
        refine ⟨by simp, ⟨by omega, by omega⟩, re.set.length - (i + 1), _, _, by omega, Cln.refl, i + 1, rfl, by omega, ?_, ?_, ?_, .inr ⟨g + 1, ?_, ?_⟩⟩ <;> (try simp only [keepE_app, List.contains_cons, List.contains_nil, Nat.reduceBEq, Bool.or_false, Bool.false_or, Bool.or_true, Bool.true_or, updE, trimE_upd, trimE_trim, trimE_app, Nat.reduceShiftRight, Nat.reduceMod, Nat.reduceEqDiff, if_true, if_false, reduceIte])
        · exact h1
        · exact h3
        · rw [w64 _ (by omega)]; rfl
        · rw [show 2 + 2 * (i + 1) = 2 + 2 * i + 2 by omega]
        · rw [take_get hk', ordP_snoc]; simp
    · have hie : i = re.set.length := by omega
      subst hie
      have hl := ordP_len re re.set
      rcases hacc with ⟨hz, h4, rfl⟩ | ⟨g, h4, rfl⟩
      · simp only [vsA, vsB, vsC, appendWp, Nat.reduceShiftRight, Nat.reduceMod, Nat.reduceLT, Nat.reduceMul, Nat.reduceSub, Int.reduceToNat, Int.reduceNeg, Int.reduceLT, Int.reduceLE, Int.reduceEq, Nat.reduceEqDiff, Nat.reduceAdd, Nat.reduceLeDiff, reduceIte, reduceCtorEq, Nat.reduceBEq, tysA, i64, iD, bD, boxR, Re.cells_eq re, intArr, spanC, h1, h3, h4, h5, Nat.lt_irrefl]
        refine ⟨by simp, by simp, ?_⟩
        have hz' : re.set = [] := List.eq_nil_of_length_eq_zero hz
        simp [ordL, ordP, hz', iD]
      · simp only [vsA, vsB, vsC, appendWp, Nat.reduceShiftRight, Nat.reduceMod, Nat.reduceLT, Nat.reduceMul, Nat.reduceSub, Int.reduceToNat, Int.reduceNeg, Int.reduceLT, Int.reduceLE, Int.reduceEq, Nat.reduceEqDiff, Nat.reduceAdd, Nat.reduceLeDiff, reduceIte, reduceCtorEq, Nat.reduceBEq, tysA, i64, iD, bD, boxR, Re.cells_eq re, intArr, spanC, h1, h3, h4, h5, Nat.lt_irrefl, List.take_length]
        have hels : ((((ordP re re.set).map fun x => [D.sc (Value.int .i64 x)]).map fun c => c.map V.d).take (2 + 2 * re.set.length)) ++ [[V.d (D.sc (Value.int IntKind.i64 re.mn))], [V.d (D.sc (Value.int IntKind.i64 re.mx))], [V.d (D.sc (Value.int IntKind.i64 re.mode))], [V.d (D.sc (Value.int IntKind.i64 re.n))], [V.d (D.sc (Value.int IntKind.i64 (if re.neg = true then 1 else 0)))], [V.d (D.sc (Value.int IntKind.i64 re.kids.length))]]
            = ((ordL re).map fun x => [D.sc (Value.int .i64 x)]).map fun c => c.map V.d := by
          rw [List.take_of_length_le (by simp [hl])]; simp [ordL]
        simp only [hels]
        refine ⟨by simp, ⟨by omega, by omega⟩, ?_⟩
        rw [frz_data 7 0 _ _ _ (by simp [ordL, hl]), if_pos (by simp [ordL, hl])]
        rfl

/-! ### Comparing a tree with itself -/

set_option maxRecDepth 100000 in
set_option maxHeartbeats 8000000 in
theorem cmpSelf_ok (re : Re) (hs : re.fine = true) : PureOK Try.prog 26 [reV re, reV re] (i64 0) := by
  revert hs
  refine Re.ind (Q := fun re => re.fine = true → PureOK Try.prog 26 [reV re, reV re] (i64 0)) (fun re ih hs => ?_) re
  obtain ⟨hset1, hlen, hfk⟩ := Re.fine_spec hs
  have hor := order_ok re hset1 hlen
  have hL : (ordL re).length = 8 + 2 * re.set.length := by simp [ordL, ordP_len]; omega
  rw [reV_eq re] at hor
  simp only [iD, bD] at hor
  generalize ordL re = L at *
  refine fn_ok Try.func26 rfl Try.ntmps26 Try.results26 rfl 0 1023 (by simp) (by simp) ?_
  simp only [vsA, vsB, vsC, appendWp, Nat.reduceShiftRight, Nat.reduceMod, Nat.reduceLT, Nat.reduceMul, Nat.reduceSub, Int.reduceToNat, Int.reduceNeg, Int.reduceLT, Int.reduceLE, Int.reduceEq, Nat.reduceEqDiff, Nat.reduceAdd, Nat.reduceLeDiff, reduceIte, reduceCtorEq, Nat.reduceBEq, tysA, i64, reV_eq re, iD, bD]
  refine call_pure hor rfl rfl ?_
  simp only [vsA, vsB, vsC, appendWp, Nat.reduceShiftRight, Nat.reduceMod, Nat.reduceLT, Nat.reduceMul, Nat.reduceSub, Int.reduceToNat, Int.reduceNeg, Int.reduceLT, Int.reduceLE, Int.reduceEq, Nat.reduceEqDiff, Nat.reduceAdd, Nat.reduceLeDiff, reduceIte, reduceCtorEq, Nat.reduceBEq, tysA, i64]
  refine call_pure hor rfl rfl ?_
  simp only [vsA, vsB, vsC, appendWp, Nat.reduceShiftRight, Nat.reduceMod, Nat.reduceLT, Nat.reduceMul, Nat.reduceSub, Int.reduceToNat, Int.reduceNeg, Int.reduceLT, Int.reduceLE, Int.reduceEq, Nat.reduceEqDiff, Nat.reduceAdd, Nat.reduceLeDiff, reduceIte, reduceCtorEq, Nat.reduceBEq, tysA, i64]
  refine loop_rule (fun n e s => ∃ i : Nat, n = L.length - i ∧ i ≤ L.length ∧ e 2 = .rf 0 0 0 0 ∧ e 3 = .rf 1 0 0 0 ∧ e 5 = .d (intsD L) ∧ e 6 = .d (intsD L) ∧ e 7 = i64 i ∧ s = [boxR re, boxR re])
    ⟨_, _, _, Cln.refl, 0, rfl, by omega, rfl, rfl, rfl, rfl, rfl, by rw [boxR, Re.cells_eq]; rfl⟩ ?_
  rintro n e s ⟨i, rfl, hi, h2, h3, h5, h6, h7, rfl⟩
  rcases Nat.lt_or_ge i L.length with hlt | hge
  · obtain ⟨k, hk⟩ : ∃ k, L[i]? = some k := ⟨_, List.getElem?_eq_getElem hlt⟩
    simp only [vsA, vsB, vsC, appendWp, Nat.reduceShiftRight, Nat.reduceMod, Nat.reduceLT, Nat.reduceMul, Nat.reduceSub, Int.reduceToNat, Int.reduceNeg, Int.reduceLT, Int.reduceLE, Int.reduceEq, Nat.reduceEqDiff, Nat.reduceAdd, Nat.reduceLeDiff, reduceIte, reduceCtorEq, Nat.reduceBEq, tysA, i64, h2, h3, h5, h6, h7, hlt]
    refine draw_c mix [] [] (by rfl) ?_
    simp only [vsA, vsB, vsC, appendWp, Nat.reduceShiftRight, Nat.reduceMod, Nat.reduceLT, Nat.reduceMul, Nat.reduceSub, Int.reduceToNat, Int.reduceNeg, Int.reduceLT, Int.reduceLE, Int.reduceEq, Nat.reduceEqDiff, Nat.reduceAdd, Nat.reduceLeDiff, reduceIte, reduceCtorEq, Nat.reduceBEq, tysA, i64, iD, h2, h3, h5, h6, h7, hlt, hk, Int.lt_irrefl]
    refine draw_c mix [] [] (by rfl) ?_
    simp only [vsA, vsB, vsC, appendWp, Nat.reduceShiftRight, Nat.reduceMod, Nat.reduceLT, Nat.reduceMul, Nat.reduceSub, Int.reduceToNat, Int.reduceNeg, Int.reduceLT, Int.reduceLE, Int.reduceEq, Nat.reduceEqDiff, Nat.reduceAdd, Nat.reduceLeDiff, reduceIte, reduceCtorEq, Nat.reduceBEq, tysA, i64, iD, h2, h3, h5, h6, h7, hlt, hk, Int.lt_irrefl]
    refine ⟨L.length - (i + 1), _, _, by omega, Cln.refl, i + 1, rfl, hlt, ?_, ?_, ?_, ?_, ?_, rfl⟩ <;> (try simp only [keepE_app, List.contains_cons, List.contains_nil, Nat.reduceBEq, Bool.or_false, Bool.false_or, Bool.or_true, Bool.true_or, updE, trimE_upd, trimE_trim, trimE_app, Nat.reduceShiftRight, Nat.reduceMod, Nat.reduceEqDiff, if_true, if_false, reduceIte])
    · exact h2
    · exact h3
    · exact h5
    · exact h6
    · rw [w64 _ (by omega)]; rfl
  have hie : i = L.length := by omega
  subst hie
  simp only [vsA, vsB, vsC, appendWp, Nat.reduceShiftRight, Nat.reduceMod, Nat.reduceLT, Nat.reduceMul, Nat.reduceSub, Int.reduceToNat, Int.reduceNeg, Int.reduceLT, Int.reduceLE, Int.reduceEq, Nat.reduceEqDiff, Nat.reduceAdd, Nat.reduceLeDiff, reduceIte, reduceCtorEq, Nat.reduceBEq, tysA, i64, h2, h3, h5, h6, h7, Nat.lt_irrefl]
  refine loop_rule (fun n e s => ∃ i : Nat, n = re.kids.length - i ∧ i ≤ re.kids.length ∧ e 2 = .rf 0 0 0 0 ∧ e 3 = .rf 1 0 0 0 ∧ e 8 = i64 i ∧ s = [boxR re, boxR re])
    ⟨_, _, _, Cln.refl, 0, rfl, by omega, ?_, ?_, rfl, rfl⟩ ?_
  · simp only [keepE_app, List.contains_cons, List.contains_nil, Nat.reduceBEq, Bool.or_false, Bool.false_or, Bool.or_true, Bool.true_or, updE, trimE_upd, trimE_trim, trimE_app, Nat.reduceShiftRight, Nat.reduceMod, Nat.reduceEqDiff, if_true, if_false, reduceIte]; exact h2
  · simp only [keepE_app, List.contains_cons, List.contains_nil, Nat.reduceBEq, Bool.or_false, Bool.false_or, Bool.or_true, Bool.true_or, updE, trimE_upd, trimE_trim, trimE_app, Nat.reduceShiftRight, Nat.reduceMod, Nat.reduceEqDiff, if_true, if_false, reduceIte]; exact h3
  rintro n e s ⟨i, rfl, hi, h2, h3, h8, rfl⟩
  rcases Nat.lt_or_ge i re.kids.length with hlt | hge
  · obtain ⟨k, hk⟩ : ∃ k, re.kids[i]? = some k := ⟨_, List.getElem?_eq_getElem hlt⟩
    have hm := List.mem_of_getElem? hk
    have hks := hfk k hm
    simp only [vsA, vsB, vsC, appendWp, Nat.reduceShiftRight, Nat.reduceMod, Nat.reduceLT, Nat.reduceMul, Nat.reduceSub, Int.reduceToNat, Int.reduceNeg, Int.reduceLT, Int.reduceLE, Int.reduceEq, Nat.reduceEqDiff, Nat.reduceAdd, Nat.reduceLeDiff, reduceIte, reduceCtorEq, Nat.reduceBEq, tysA, i64, h2, h3, h8, boxR, Re.cells_eq re, hlt, iD, bD]
    refine draw_c mix [] [] (by rfl) ?_
    simp only [vsA, vsB, vsC, appendWp, Nat.reduceShiftRight, Nat.reduceMod, Nat.reduceLT, Nat.reduceMul, Nat.reduceSub, Int.reduceToNat, Int.reduceNeg, Int.reduceLT, Int.reduceLE, Int.reduceEq, Nat.reduceEqDiff, Nat.reduceAdd, Nat.reduceLeDiff, reduceIte, reduceCtorEq, Nat.reduceBEq, tysA, i64, h2, h3, h8, hlt, hk, iD, bD]
    refine callC_pure (ih k hm hks) (by simp [refsV, refsV.go, reV_eq, i64, bV, reEl]) (by simp [refsV, refsV.go, reV_eq, i64, bV, reEl]) ?_
    simp only [vsA, vsB, vsC, appendWp, Nat.reduceShiftRight, Nat.reduceMod, Nat.reduceLT, Nat.reduceMul, Nat.reduceSub, Int.reduceToNat, Int.reduceNeg, Int.reduceLT, Int.reduceLE, Int.reduceEq, Nat.reduceEqDiff, Nat.reduceAdd, Nat.reduceLeDiff, reduceIte, reduceCtorEq, Nat.reduceBEq, tysA, i64, h2, h3, h8, hlt, hk, iD, bD]
    refine ⟨re.kids.length - (i + 1), _, _, by omega, Cln.refl, i + 1, rfl, hlt, ?_, ?_, ?_, rfl⟩ <;> (try simp only [keepE_app, List.contains_cons, List.contains_nil, Nat.reduceBEq, Bool.or_false, Bool.false_or, Bool.or_true, Bool.true_or, updE, trimE_upd, trimE_trim, trimE_app, Nat.reduceShiftRight, Nat.reduceMod, Nat.reduceEqDiff, if_true, if_false, reduceIte])
    · exact h2
    · exact h3
    · rw [w64 _ (by omega)]; rfl
  · have hie : i = re.kids.length := by omega
    subst hie
    simp only [vsA, vsB, vsC, appendWp, Nat.reduceShiftRight, Nat.reduceMod, Nat.reduceLT, Nat.reduceMul, Nat.reduceSub, Int.reduceToNat, Int.reduceNeg, Int.reduceLT, Int.reduceLE, Int.reduceEq, Nat.reduceEqDiff, Nat.reduceAdd, Nat.reduceLeDiff, reduceIte, reduceCtorEq, Nat.reduceBEq, tysA, i64, h2, h3, h8, boxR, Re.cells_eq re, Nat.lt_irrefl, iD, bD]
    all_goals first | exact ⟨rfl, rfl⟩ | exact ⟨rfl, trivial⟩ | rfl | trivial | (rw [reV_eq]; rfl)

end Go.Proofs.Ytafbdphblilenaa

set_option linter.unusedSimpArgs false
set_option linter.unusedVariables false
namespace Go.Proofs.Ytafbdphblilenaa
open Go.VL

/-! ### The example -/

def aR : Re := .mk 1 [(97, 97)] [] 0 0 0 0 false
def xR : Re := .mk 4 [] [aR] 2 3 0 0 false
def yR : Re := .mk 2 [] [aR, aR, .mk 4 [] [aR] 0 1 0 0 false] 0 0 0 0 false

theorem x_exq : xR.every exq = true := by decide
theorem x_fine : xR.fine = true := by decide
theorem y_fine : yR.fine = true := by decide
theorem x_lens : xR.lens = (2, 3) := by decide
theorem x_size : (xR.size : Int) = 2 := by decide
theorem y_size : (yR.size : Int) = 5 := by decide
theorem x_depth : xR.depth = 2 := by decide
theorem x_exp : expandR xR = (yR, 0) := by
  rw [expandR, if_neg (by decide), if_neg (by decide)]
  rfl

theorem reV_x : reV xR = .ag [i64 4, .d (.sl []), .d (.sl [aR.cells]), i64 2, i64 3, i64 0, i64 0, bV false] := by rw [reV_eq]; rfl
theorem a_cells : aR.cells = [iD 1, .sl [[iD 97, iD 97]], .sl [], iD 0, iD 0, iD 0, iD 0, bD false] := by rw [Re.cells_eq]; rfl

set_option maxRecDepth 100000 in
set_option maxHeartbeats 8000000 in
theorem lives_ok : PureOK Try.prog 17 [] (bV true) := by
  have hl := lengths_ok xR x_fine
  have he := expand_ok xR x_exq
  have hs := size_ok xR (by decide)
  have hd := depth_ok xR (by decide)
  have hs' := size_ok yR (by decide)
  have hc := cmpSelf_ok yR y_fine
  rw [x_lens] at hl
  rw [x_exp] at he
  rw [x_size] at hs
  rw [x_depth] at hd
  rw [y_size] at hs'
  refine fn_ok Try.func17 rfl Try.ntmps17 Try.results17 rfl 0 255 (by simp) (by simp) ?_
  simp only [vsA, vsB, vsC, appendWp, Nat.reduceShiftRight, Nat.reduceMod, Nat.reduceLT, Nat.reduceMul, Nat.reduceSub, Int.reduceToNat, Int.reduceNeg, Int.reduceLT, Int.reduceLE, Int.reduceEq, Nat.reduceEqDiff, Nat.reduceAdd, Nat.reduceLeDiff, reduceIte, reduceCtorEq, Nat.reduceBEq, tysA, i64]
  refine call_give [] rfl ?_
  refine call_pure hl rfl rfl ?_
  simp only [vsA, vsB, vsC, appendWp, Nat.reduceShiftRight, Nat.reduceMod, Nat.reduceLT, Nat.reduceMul, Nat.reduceSub, Int.reduceToNat, Int.reduceNeg, Int.reduceLT, Int.reduceLE, Int.reduceEq, Nat.reduceEqDiff, Nat.reduceAdd, Nat.reduceLeDiff, reduceIte, reduceCtorEq, Nat.reduceBEq, tysA, i64, killO]
  refine call_give [] rfl ?_
  refine call_pure he rfl (by simp [refsV, refsV.go, reV_eq, i64, bV, reEl]) ?_
  simp only [vsA, vsB, vsC, appendWp, Nat.reduceShiftRight, Nat.reduceMod, Nat.reduceLT, Nat.reduceMul, Nat.reduceSub, Int.reduceToNat, Int.reduceNeg, Int.reduceLT, Int.reduceLE, Int.reduceEq, Nat.reduceEqDiff, Nat.reduceAdd, Nat.reduceLeDiff, reduceIte, reduceCtorEq, Nat.reduceBEq, tysA, i64, killO]
  refine call_give [] rfl ?_
  refine call_pure hs rfl rfl ?_
  simp only [vsA, vsB, vsC, appendWp, Nat.reduceShiftRight, Nat.reduceMod, Nat.reduceLT, Nat.reduceMul, Nat.reduceSub, Int.reduceToNat, Int.reduceNeg, Int.reduceLT, Int.reduceLE, Int.reduceEq, Nat.reduceEqDiff, Nat.reduceAdd, Nat.reduceLeDiff, reduceIte, reduceCtorEq, Nat.reduceBEq, tysA, i64, killO]
  refine call_give [] rfl ?_
  refine call_pure hd rfl rfl ?_
  simp only [vsA, vsB, vsC, appendWp, Nat.reduceShiftRight, Nat.reduceMod, Nat.reduceLT, Nat.reduceMul, Nat.reduceSub, Int.reduceToNat, Int.reduceNeg, Int.reduceLT, Int.reduceLE, Int.reduceEq, Nat.reduceEqDiff, Nat.reduceAdd, Nat.reduceLeDiff, reduceIte, reduceCtorEq, Nat.reduceBEq, tysA, i64, killO]
  refine call_give [] rfl ?_
  refine call_pure hs' rfl rfl ?_
  simp only [vsA, vsB, vsC, appendWp, Nat.reduceShiftRight, Nat.reduceMod, Nat.reduceLT, Nat.reduceMul, Nat.reduceSub, Int.reduceToNat, Int.reduceNeg, Int.reduceLT, Int.reduceLE, Int.reduceEq, Nat.reduceEqDiff, Nat.reduceAdd, Nat.reduceLeDiff, reduceIte, reduceCtorEq, Nat.reduceBEq, tysA, i64, killO]
  refine call_give [] rfl ?_
  refine call_pure hc rfl rfl ?_
  simp only [vsA, vsB, vsC, appendWp, Nat.reduceShiftRight, Nat.reduceMod, Nat.reduceLT, Nat.reduceMul, Nat.reduceSub, Int.reduceToNat, Int.reduceNeg, Int.reduceLT, Int.reduceLE, Int.reduceEq, Nat.reduceEqDiff, Nat.reduceAdd, Nat.reduceLeDiff, reduceIte, reduceCtorEq, Nat.reduceBEq, tysA, i64, killO]
  all_goals first | exact ⟨rfl, rfl⟩ | exact ⟨rfl, trivial⟩ | rfl | trivial | (rw [reV_eq]; rfl)

end Go.Proofs.Ytafbdphblilenaa

set_option linter.unusedSimpArgs false
set_option linter.unusedVariables false
namespace Go.Proofs.Ytafbdphblilenaa
open Go.VL

/-! ### The plain law of lengths -/

/-- A pair of lengths, and whether no symbol is enough. -/
structure LR (nul : Bool) (p : Int × Int) : Prop where
  a0 : 0 ≤ p.1
  a1 : p.1 ≤ 1000000
  b0 : -1 ≤ p.2
  b1 : p.2 ≤ 1000000
  ab : p.2 = -1 ∨ p.1 ≤ p.2
  nl : nul = true ↔ p.1 = 0

theorem lplus_in {a b : Int} (h1 : -1 ≤ a ∧ a ≤ 1000000) (h2 : -1 ≤ b ∧ b ≤ 1000000) : lplus a b = if a < 0 ∨ b < 0 then -1 else min (a + b) 1000000 := by
  unfold lplus
  rw [w64 _ (by omega)]

theorem cat_step {na nk : Bool} {a k : Int × Int} (ha : LR na a) (hk : LR nk k) : LR (na && nk) (lplus a.1 k.1, lplus a.2 k.2) := by
  obtain ⟨a0, a1, b0, b1, ab, nl⟩ := ha
  obtain ⟨c0, c1, d0, d1, cd, nl'⟩ := hk
  have e1 : lplus a.1 k.1 = min (a.1 + k.1) 1000000 := by rw [lplus_in ⟨by omega, a1⟩ ⟨by omega, c1⟩, if_neg (by omega)]
  have e2 := lplus_in ⟨b0, b1⟩ ⟨d0, d1⟩
  refine ⟨?_, ?_, ?_, ?_, ?_, ?_⟩ <;> simp only [e1, e2]
  · omega
  · omega
  · split <;> omega
  · split <;> omega
  · split <;> omega
  · rw [Bool.and_eq_true, nl, nl']; omega

theorem cat_foldl : ∀ (l : List (Bool × (Int × Int))) (na : Bool) (a : Int × Int), LR na a → (∀ x ∈ l, LR x.1 x.2) →
    LR (na && (l.map (·.1)).all id) ((l.map (·.2)).foldl (fun a k => (lplus a.1 k.1, lplus a.2 k.2)) a)
  | [], na, a, h, _ => by simpa using h
  | x :: l, na, a, h, hl => by
    have := cat_foldl l (na && x.1) _ (cat_step h (hl x (by simp))) (fun y hy => hl y (by simp [hy]))
    simpa [Bool.and_assoc] using this

theorem alt_step {na nk : Bool} {a k : Int × Int} (ha : LR na a) (hk : LR nk k) : LR (na || nk) (altF a k) := by
  obtain ⟨a0, a1, b0, b1, ab, nl⟩ := ha
  obtain ⟨c0, c1, d0, d1, cd, nl'⟩ := hk
  refine ⟨?_, ?_, ?_, ?_, ?_, ?_⟩ <;> simp only [altF, lgreater]
  · omega
  · omega
  · split <;> omega
  · split <;> omega
  · split <;> omega
  · rw [Bool.or_eq_true, nl, nl']; omega

theorem alt_foldl : ∀ (l : List (Bool × (Int × Int))) (na : Bool) (a : Int × Int), LR na a → (∀ x ∈ l, LR x.1 x.2) →
    LR (na || (l.map (·.1)).any id) ((l.map (·.2)).foldl altF a)
  | [], na, a, h, _ => by simpa using h
  | x :: l, na, a, h, hl => by
    have := alt_foldl l (na || x.1) _ (alt_step h (hl x (by simp))) (fun y hy => hl y (by simp [hy]))
    simpa [Bool.or_assoc] using this

theorem altF_self {n : Bool} {k : Int × Int} (h : LR n k) : altF k k = k := by
  obtain ⟨a0, a1, b0, b1, ab, nl⟩ := h
  refine Prod.ext ?_ ?_ <;> simp only [altF, lgreater]
  · omega
  · split <;> omega

/-- A product of a length. -/
theorem lt_nn {b n : Int} (h0 : 0 ≤ b) (h1 : b ≤ 1000000) (n0 : 0 ≤ n) (n1 : n ≤ 1000000) : ltimes b n = min (b * n) 1000000 := by
  have hle : b * n ≤ 1000000 * 1000000 := Int.mul_le_mul h1 n1 n0 (by omega)
  have hge : 0 ≤ b * n := Int.mul_nonneg h0 n0
  unfold ltimes
  split
  · rename_i h
    rcases h with h | h <;> subst h <;> simp <;> omega
  · rw [if_neg (by omega), w64 _ (by omega)]

theorem lt_neg {n : Int} (n0 : 0 < n) : ltimes (-1) n = -1 := by
  unfold ltimes
  rw [if_neg (by omega), if_pos (by omega)]

theorem lt_any {b : Int} (h : ¬ b = 0) : ltimes b (-1) = -1 := by
  unfold ltimes
  rw [if_neg (by omega), if_pos (by omega)]

theorem lt_zero (b : Int) : ltimes b 0 = 0 := by simp [ltimes]
theorem lt_zero' (n : Int) : ltimes 0 n = 0 := by simp [ltimes]

theorem lt_range {b n : Int} (h0 : -1 ≤ b) (h1 : b ≤ 1000000) (n0 : 0 ≤ n) (n1 : n ≤ 1000000) : -1 ≤ ltimes b n ∧ ltimes b n ≤ 1000000 ∧ (0 ≤ b → 0 ≤ ltimes b n) := by
  by_cases hb : b = -1
  · subst hb
    by_cases hn : n = 0
    · subst hn; rw [lt_zero]; omega
    · rw [lt_neg (by omega)]; omega
  · rw [lt_nn (by omega) h1 n0 n1]
    have := Int.mul_nonneg (show 0 ≤ b by omega) n0
    omega

theorem lt_m1 {n : Int} (n0 : 0 ≤ n) : ltimes (-1) n = if n = 0 then 0 else -1 := by
  split
  · rename_i h; rw [h, lt_zero]
  · exact lt_neg (by omega)

theorem lt_add {b n m : Int} (h0 : -1 ≤ b) (h1 : b ≤ 1000000) (n0 : 0 ≤ n) (m0 : 0 ≤ m) (hs : n + m ≤ 1000000) : lplus (ltimes b n) (ltimes b m) = ltimes b (n + m) := by
  have r1 := lt_range h0 h1 n0 (by omega)
  have r2 := lt_range h0 h1 m0 (by omega)
  rw [lplus_in ⟨r1.1, r1.2.1⟩ ⟨r2.1, r2.2.1⟩]
  by_cases hb : b = -1
  · subst hb
    rw [lt_m1 n0, lt_m1 m0, lt_m1 (show 0 ≤ n + m by omega)]
    (repeat' split) <;> omega
  · rw [lt_nn (by omega) h1 n0 (by omega), lt_nn (by omega) h1 m0 (by omega), lt_nn (by omega) h1 (by omega) hs, Int.mul_add]
    have p1 := Int.mul_nonneg (show 0 ≤ b by omega) n0
    have p2 := Int.mul_nonneg (show 0 ≤ b by omega) m0
    rw [if_neg (by omega)]
    omega

theorem lt_one {b : Int} (h0 : -1 ≤ b) (h1 : b ≤ 1000000) : ltimes b 1 = b := by
  by_cases hb : b = -1
  · subst hb; exact lt_neg (by omega)
  · rw [lt_nn (by omega) h1 (by omega) (by omega)]; omega

/-! ### What the generator makes -/

def genB (re : Re) : Bool := decide (re.set.length ≤ 10 ∧ re.kids.length ≤ 4 ∧ 0 ≤ re.op ∧ re.op ≤ 11 ∧ (re.op = 4 → re.kids.length = 1 ∧ 0 ≤ re.mn ∧ re.mn ≤ 2 ∧ (re.mx = -1 ∨ (1 ≤ re.mx ∧ re.mx ≤ 3 ∧ re.mn ≤ re.mx))) ∧
  (re.op = 3 ∨ re.op = 10 ∨ re.op = 5 ∨ re.op = 9 → re.kids ≠ []))

theorem every_mono {p q : Re → Bool} (h : ∀ re, p re = true → q re = true) (re : Re) (hp : re.every p = true) : re.every q = true := by
  revert hp
  refine Re.ind (Q := fun re => re.every p = true → re.every q = true) (fun re ih hp => ?_) re
  obtain ⟨h1, h2⟩ := (Re.every_iff re).1 hp
  exact (Re.every_iff re).2 ⟨h re h1, fun k hk => ih k hk (h2 k hk)⟩

theorem gen_exq (re : Re) (h : re.every genB = true) : re.every exq = true := by
  refine every_mono (fun re h => ?_) re h
  have := of_decide_eq_true h
  refine decide_eq_true ?_
  refine ⟨by omega, by omega, fun o => ?_⟩
  have := this.2.2.2.2.1 o
  omega

theorem nul_lens (re : Re) (h : re.every genB = true) : LR re.anul re.lens := by
  revert h
  refine Re.ind (Q := fun re => re.every genB = true → LR re.anul re.lens) (fun re ih h => ?_) re
  obtain ⟨h1, h2⟩ := (Re.every_iff re).1 h
  obtain ⟨_, _, o0, o11, h4, hne⟩ := of_decide_eq_true h1
  have hk : ∀ k ∈ re.kids, LR k.anul k.lens := fun k hk => ih k hk (h2 k hk)
  have hp : ∀ x ∈ re.kids.map (fun k => (k.anul, k.lens)), LR x.1 x.2 := fun x hx => by
    obtain ⟨k, hk', rfl⟩ := List.mem_map.1 hx
    exact hk k hk'
  rw [Re.anul_eq, Re.lens_eq]
  have m1 : (re.kids.map (fun k => (k.anul, k.lens))).map (·.1) = re.kids.map Re.anul := by simp
  have m2 : (re.kids.map (fun k => (k.anul, k.lens))).map (·.2) = re.kids.map Re.lens := by simp
  have alt : re.kids ≠ [] → LR ((re.kids.map Re.anul).any id) (altL (re.kids.map Re.lens)) := fun hn => by
    obtain ⟨k, l, hkl⟩ := List.exists_cons_of_ne_nil hn
    have hkk := hk k (by rw [hkl]; simp)
    have := alt_foldl (l.map fun k => (k.anul, k.lens)) k.anul k.lens hkk (fun x hx => by
      obtain ⟨y, hy, rfl⟩ := List.mem_map.1 hx
      exact hk y (by rw [hkl]; simp [hy]))
    rw [hkl]
    simp only [List.map_cons, altL, altF_self hkk, List.any_cons, id_eq]
    simpa [List.map_map, Function.comp_def] using this
  have hop : re.op = 0 ∨ re.op = 1 ∨ re.op = 2 ∨ re.op = 3 ∨ re.op = 4 ∨ re.op = 5 ∨ re.op = 6 ∨ re.op = 7 ∨ re.op = 8 ∨ re.op = 9 ∨ re.op = 10 ∨ re.op = 11 := by omega
  have zz : LR true (0, 0) := ⟨by decide, by decide, by decide, by decide, .inr (by decide), by decide⟩
  rcases hop with o | o | o | o | o | o | o | o | o | o | o | o
  · rw [o]; exact zz
  · have one : LR false (1, 1) := ⟨by decide, by decide, by decide, by decide, .inr (by decide), by decide⟩
    rw [o]; exact one
  · have := cat_foldl _ true (0, 0) zz hp
    rw [m1, m2, Bool.true_and] at this
    rw [o]; exact this
  · have := alt (hne (.inl o))
    rw [o]; exact this
  · obtain ⟨q1, q2, q3, q4⟩ := h4 o
    have := alt (by intro he; rw [he] at q1; cases q1)
    rw [o]
    simp only [anulOp, lensOp]
    generalize altL (re.kids.map Re.lens) = p at *
    generalize (re.kids.map Re.anul).any id = na at *
    obtain ⟨a0, a1, b0, b1, ab, nl⟩ := this
    have e1 := lt_nn a0 a1 q2 (by omega)
    have e2 : 0 ≤ p.1 * re.mn := Int.mul_nonneg a0 q2
    simp only [reduceCtorEq, Int.reduceEq, if_false, false_or, or_false, or_self, if_true, true_or, or_true]
    have key : (ltimes p.2 re.mx = -1 ∨ (0 ≤ ltimes p.2 re.mx ∧ ltimes p.1 re.mn ≤ ltimes p.2 re.mx)) ∧ ltimes p.2 re.mx ≤ 1000000 := by
      by_cases hm : re.mx = -1
      · rw [hm]
        by_cases hb : p.2 = 0
        · have ha : p.1 = 0 := by omega
          rw [hb, ha, lt_zero', lt_zero']; omega
        · rw [lt_any hb]; omega
      · have q5 : 1 ≤ re.mx ∧ re.mx ≤ 3 ∧ re.mn ≤ re.mx := by omega
        by_cases hb : p.2 = -1
        · rw [hb, lt_neg (by omega)]; omega
        · rw [lt_nn (by omega) b1 (by omega) (by omega), e1]
          have : p.1 * re.mn ≤ p.2 * re.mx := Int.mul_le_mul (by omega) q5.2.2 q2 (by omega)
          have := Int.mul_nonneg (show 0 ≤ p.2 by omega) (show 0 ≤ re.mx by omega)
          omega
    refine ⟨?_, ?_, ?_, key.2, ?_, ?_⟩ <;> simp only
    · rw [e1]; omega
    · rw [e1]; omega
    · omega
    · omega
    · rw [e1]
      split
      · rename_i hm
        rw [hm, Int.mul_zero]; exact ⟨fun _ => by omega, fun _ => rfl⟩
      · rename_i hm
        rw [nl]
        constructor
        · intro hz; rw [hz, Int.zero_mul]; omega
        · intro hz
          by_cases hz' : p.1 = 0
          · exact hz'
          · have : 0 < p.1 * re.mn := Int.mul_pos (by omega) (by omega)
            omega
  · have := alt (hne (.inr (.inr (.inl o))))
    rw [o]; exact this
  · have far : LR true (0, -1) := ⟨by decide, by decide, by decide, by decide, .inl (by decide), by decide⟩
    rw [o]; exact far
  · rw [o]; exact zz
  · rw [o]; exact zz
  · have := alt (hne (.inr (.inr (.inr o))))
    rw [o]; exact this
  · have := alt (hne (.inr (.inl o)))
    rw [o]; exact this
  · rw [o]; exact zz

/-! ### Expanding keeps the lengths -/

theorem cat_one {n : Bool} {p : Int × Int} (h : LR n p) : catL [p] = p := by
  obtain ⟨a0, a1, b0, b1, ab, nl⟩ := h
  refine Prod.ext ?_ ?_ <;> simp only [catL, List.foldl_cons, List.foldl_nil]
  · rw [lplus_in ⟨by omega, by omega⟩ ⟨by omega, a1⟩, if_neg (by omega)]; omega
  · rw [lplus_in ⟨by omega, by omega⟩ ⟨b0, b1⟩]; split <;> omega

theorem join_lens {l : List Re} (h : ∀ x ∈ l, ∃ n, LR n x.lens) : (joinR l).lens = catL (l.map Re.lens) := by
  unfold joinR
  split
  · rename_i x
    obtain ⟨n, hx⟩ := h x (by simp)
    rw [List.map_cons, List.map_nil, cat_one hx]
  · rw [Re.lens_eq]; rfl

theorem rept_lens {x : Re} {n : Bool} (hx : LR n x.lens) (most mode : Int) : (rept x most mode).lens = (0, ltimes x.lens.2 most) := by
  rw [Re.lens_eq]
  show (ltimes (altL [x.lens]).1 0, ltimes (altL [x.lens]).2 most) = _
  rw [altL_one, altF_self hx, lt_zero]

theorem rest_lens {x : Re} {n : Bool} (hx : LR n x.lens) (mode : Int) (j : Nat) : (j : Int) ≤ 1000 → (restR mode x j).lens = (0, ltimes x.lens.2 ((j : Int) + 1)) ∧ LR true (restR mode x j).lens := by
  induction j with
  | zero =>
    intro _
    have h := rept_lens hx 1 mode
    have e : (restR mode x 0).lens = (0, ltimes x.lens.2 1) := h
    refine ⟨by rw [e, show (((0 : Nat) : Int) + 1) = 1 by omega], ?_⟩
    rw [e, lt_one hx.b0 hx.b1]
    exact ⟨(by show (0 : Int) ≤ 0; omega), (by show (0 : Int) ≤ 1000000; omega), hx.b0, hx.b1, by have := hx.ab; have := hx.a0; simp only; omega, by simp⟩
  | succ j ih =>
    intro hj
    obtain ⟨h1, h2⟩ := ih (by omega)
    have hj' : (joinR [x, restR mode x j]).lens = (lplus (lplus 0 x.lens.1) 0, lplus (lplus 0 x.lens.2) (ltimes x.lens.2 (j + 1))) := by
      rw [join_lens (fun y hy => by
        rcases List.mem_cons.1 hy with rfl | hy
        · exact ⟨_, hx⟩
        · rw [List.mem_singleton.1 hy]; exact ⟨_, h2⟩)]
      simp only [List.map_cons, List.map_nil, catL, List.foldl_cons, List.foldl_nil, h1]
    have o1 := cat_one hx
    have o2 : lplus 0 x.lens.2 = x.lens.2 := by have := congrArg Prod.snd o1; simpa [catL] using this
    have o3 : lplus 0 x.lens.1 = x.lens.1 := by have := congrArg Prod.fst o1; simpa [catL] using this
    have o4 : lplus x.lens.1 0 = x.lens.1 := by rw [lplus_in ⟨by have := hx.a0; omega, hx.a1⟩ ⟨by omega, by omega⟩, if_neg (by have := hx.a0; omega)]; have := hx.a0; have := hx.a1; omega
    have o5 : lplus x.lens.2 (ltimes x.lens.2 (j + 1)) = ltimes x.lens.2 ((j + 1 : Nat) + 1) := by
      have := lt_add hx.b0 hx.b1 (n := 1) (m := (j : Int) + 1) (by omega) (by omega) (by omega)
      rw [lt_one hx.b0 hx.b1] at this
      rw [this]; congr 1; omega
    rw [o2, o3, o4, o5] at hj'
    have rg := lt_range hx.b0 hx.b1 (n := ((j + 1 : Nat) : Int) + 1) (by omega) (by omega)
    have hcat : LR (n && true) (joinR [x, restR mode x j]).lens := by
      rw [join_lens (fun y hy => by
        rcases List.mem_cons.1 hy with rfl | hy
        · exact ⟨_, hx⟩
        · rw [List.mem_singleton.1 hy]; exact ⟨_, h2⟩)]
      have := cat_foldl [(n, x.lens), (true, (restR mode x j).lens)] true (0, 0) ⟨by decide, by decide, by decide, by decide, .inr (by decide), by decide⟩ (fun y hy => by
        rcases List.mem_cons.1 hy with rfl | hy
        · exact hx
        · rw [List.mem_singleton.1 hy]; exact h2)
      simpa [catL] using this
    have e : (restR mode x (j + 1)).lens = (0, ltimes (joinR [x, restR mode x j]).lens.2 1) := rept_lens hcat 1 mode
    rw [lt_one hcat.b0 hcat.b1, hj'] at e
    refine ⟨e, ?_⟩
    rw [e]
    exact ⟨(by show (0 : Int) ≤ 0; omega), (by show (0 : Int) ≤ 1000000; omega), rg.1, rg.2.1, by have := rg.2.2; simp only; by_cases hb : 0 ≤ x.lens.2; exact .inr (this hb); (left; rw [show x.lens.2 = -1 by have := hx.b0; omega]; exact lt_neg (by omega)), by simp⟩

theorem cat_rep {n : Bool} {p : Int × Int} (h : LR n p) (k : Nat) : (k : Int) ≤ 1000 → catL (List.replicate k p) = (ltimes p.1 k, ltimes p.2 k) := by
  induction k with
  | zero => intro _; simp [catL, lt_zero]
  | succ k ih =>
    intro hk
    have a0 := h.a0
    rw [List.replicate_succ', catL_snoc, ih (by omega)]
    have e1 := lt_add (b := p.1) (by omega) h.a1 (n := k) (m := 1) (by omega) (by omega) (by omega)
    have e2 := lt_add (b := p.2) h.b0 h.b1 (n := k) (m := 1) (by omega) (by omega) (by omega)
    rw [lt_one (by omega) h.a1] at e1
    rw [lt_one h.b0 h.b1] at e2
    rw [show ((k + 1 : Nat) : Int) = (k : Int) + 1 by omega]
    simp only [e1, e2]

theorem unroll_lens {re x : Re} {n : Bool} (hx : LR n x.lens) (h0 : 0 ≤ re.mn) (h1 : re.mn ≤ 2) (h2 : re.mx = -1 ∨ (1 ≤ re.mx ∧ re.mx ≤ 3 ∧ re.mn ≤ re.mx)) : (unrollR re x).lens = (ltimes x.lens.1 re.mn, ltimes x.lens.2 re.mx) := by
  have a0 := hx.a0
  have a1 := hx.a1
  have b0 := hx.b0
  have b1 := hx.b1
  have hm : (re.mn.toNat : Int) = re.mn := Int.toNat_of_nonneg h0
  have hrep := cat_rep hx re.mn.toNat (by omega)
  rw [hm] at hrep
  have r1 := lt_range (b := x.lens.1) (by omega) a1 h0 (by omega)
  have r2 := lt_range (b := x.lens.2) b0 b1 h0 (by omega)
  have p0 : lplus (ltimes x.lens.1 re.mn) 0 = ltimes x.lens.1 re.mn := by
    have := r1.2.2 a0
    rw [lplus_in ⟨r1.1, r1.2.1⟩ ⟨by omega, by omega⟩, if_neg (by omega)]; omega
  have mem : ∀ l : List Re, (∀ y ∈ l, ∃ k, LR k y.lens) → ∀ y ∈ List.replicate re.mn.toNat x ++ l, ∃ k, LR k y.lens := fun l hl y hy => by
    rcases List.mem_append.1 hy with hy | hy
    · rw [(List.mem_replicate.1 hy).2]; exact ⟨_, hx⟩
    · exact hl y hy
  unfold unrollR
  by_cases hm1 : re.mx = -1
  · rw [if_pos hm1]
    have er := rept_lens hx (-1) re.mode
    rw [join_lens (mem _ (fun y hy => by
      rw [List.mem_singleton.1 hy, er]
      refine ⟨true, (by show (0 : Int) ≤ 0; omega), (by show (0 : Int) ≤ 1000000; omega), ?_, ?_, ?_, by simp⟩ <;> simp only
      all_goals
        by_cases hb : x.lens.2 = 0
        · rw [hb, lt_zero']; simp
        · rw [lt_any hb]; simp))]
    rw [List.map_append, List.map_replicate, List.map_cons, List.map_nil, catL_snoc, hrep, er, hm1]
    simp only [p0]
    congr 1
    by_cases hb : x.lens.2 = 0
    · rw [hb, lt_zero', lt_zero', lplus_in (by omega) (by omega)]; simp; omega
    · rw [lt_any hb, lplus_in ⟨r2.1, r2.2.1⟩ (by omega), if_pos (by omega)]
  · rw [if_neg hm1]
    obtain ⟨q1, q2, q3⟩ : 1 ≤ re.mx ∧ re.mx ≤ 3 ∧ re.mn ≤ re.mx := by omega
    by_cases hm2 : re.mn < re.mx
    · rw [if_pos hm2]
      have hd : ((re.mx - re.mn - 1).toNat : Int) = re.mx - re.mn - 1 := Int.toNat_of_nonneg (by omega)
      obtain ⟨er, hr⟩ := rest_lens hx re.mode (re.mx - re.mn - 1).toNat (by omega)
      rw [hd] at er
      rw [join_lens (mem _ (fun y hy => by rw [List.mem_singleton.1 hy]; exact ⟨_, hr⟩))]
      rw [List.map_append, List.map_replicate, List.map_cons, List.map_nil, catL_snoc, hrep, er]
      simp only [p0]
      congr 1
      rw [lt_add b0 b1 h0 (by omega) (by omega)]
      congr 1; omega
    · rw [if_neg hm2]
      have he : re.mx = re.mn := by omega
      rw [join_lens (mem [] (fun y hy => by cases hy)), List.append_nil, List.map_replicate, hrep, he]

theorem exp_lens (re : Re) (h : re.every genB = true) : re.exp.lens = re.lens := by
  revert h
  refine Re.ind (Q := fun re => re.every genB = true → re.exp.lens = re.lens) (fun re ih h => ?_) re
  obtain ⟨h1, h2⟩ := (Re.every_iff re).1 h
  obtain ⟨_, _, o0, o11, h4, hne⟩ := of_decide_eq_true h1
  by_cases hk : re.op = 4 ∧ re.kept = false
  · obtain ⟨q1, q2, q3, q4⟩ := h4 hk.1
    obtain ⟨k, hk1⟩ : ∃ k, re.kids = [k] := List.length_eq_one_iff.1 q1
    have hkm : k ∈ re.kids := by rw [hk1]; simp
    have hkl := ih k hkm (h2 k hkm)
    have hlr := nul_lens k (h2 k hkm)
    rw [Re.exp_un hk.1 hk.2 hk1, unroll_lens (n := k.anul) (by rw [hkl]; exact hlr) q2 q3 q4, hkl, Re.lens_eq re, hk1, hk.1]
    show _ = (ltimes (altL [k.lens]).1 re.mn, ltimes (altL [k.lens]).2 re.mx)
    rw [altL_one, altF_self hlr]
  · rw [Re.exp_keep (by
      by_cases o : re.op = 4
      · right; cases hkk : re.kept with
        | true => rfl
        | false => exact absurd ⟨o, hkk⟩ hk
      · exact .inl o), Re.lens_eq, Re.lens_eq re]
    show lensOp re.op re.mn re.mx ((re.kids.map Re.exp).map Re.lens) = _
    rw [List.map_map]
    congr 1
    exact List.map_congr_left fun k hk' => ih k hk' (h2 k hk')

end Go.Proofs.Ytafbdphblilenaa
