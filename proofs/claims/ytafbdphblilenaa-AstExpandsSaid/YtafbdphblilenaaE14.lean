/- Part of the proof: the program logic, or what some functions compute (F26). -/
import Derived.Test.YtafbdphblilenaaE13
import Derived.Test.YtafbdphblilenaaE7
set_option linter.unusedSimpArgs false
set_option linter.unusedVariables false
set_option linter.unusedSimpArgs false
set_option linter.unusedVariables false
namespace Go.Proofs.Ytafbdphblilenaa
open Go.VL

/-! ### All that the maker makes is well formed -/

theorem every_mk {p : Re → Bool} {op mn mx mode n : Int} {set : List (Int × Int)} {kids : List Re} {neg : Bool} (h : p (.mk op set kids mn mx mode n neg) = true) (hk : ∀ k ∈ kids, k.every p = true) : (Re.mk op set kids mn mx mode n neg).every p = true :=
  (Re.every_iff _).2 ⟨h, hk⟩

theorem set_gen (m : Mk) : m.set.1.every genB = true := by
  have hl : ∀ i : Nat, ((setSpans[i]?).getD []).length ≤ 10 := by
    intro i
    by_cases hi : i < 8
    · have : ∀ i, i < 8 → ((setSpans[i]?).getD []).length ≤ 10 := by decide
      exact this i hi
    · rw [List.getElem?_eq_none (by simp [setSpans]; omega)]; simp
  refine every_mk (decide_eq_true ?_) (fun k hk => by cases hk)
  refine ⟨hl _, by simp [Re.kids], ?_, ?_, ?_, ?_⟩ <;> simp [Re.op]

theorem kidsFrom_gen {t : Mk → Re × Mk} (ht : ∀ m, (t m).1.every genB = true) : ∀ (f : Nat) (i : Int) (m : Mk), (∀ k ∈ (kidsFrom t f i m).1, k.every genB = true) ∧ (kidsFrom t f i m).1.length ≤ f
  | 0, i, m => by simp [kidsFrom]
  | f + 1, i, m => by
    simp only [kidsFrom]
    split
    · obtain ⟨h1, h2⟩ := kidsFrom_gen ht f (i + 1) (t (m.next 2).2).2
      refine ⟨fun k hk => ?_, by simp; omega⟩
      rcases List.mem_cons.1 hk with rfl | hk
      · exact ht _
      · exact h1 k hk
    · simp

theorem kidsFrom_ne {t : Mk → Re × Mk} (m : Mk) : (kidsFrom t 4 0 m).1 ≠ [] := by
  have hp := pick_range m.l m.pos 2 (by omega)
  rw [kidsFrom, if_pos (by simp only [Mk.next]; omega)]
  simp

theorem one_gen {op mn mx mode n : Int} {neg : Bool} {k : Re} (hk : k.every genB = true) (h0 : 0 ≤ op) (h1 : op ≤ 11) (h4 : op = 4 → 0 ≤ mn ∧ mn ≤ 2 ∧ (mx = -1 ∨ (1 ≤ mx ∧ mx ≤ 3 ∧ mn ≤ mx))) : (Re.mk op [] [k] mn mx mode n neg).every genB = true := by
  refine every_mk (decide_eq_true ⟨by simp [Re.set], by simp [Re.kids], h0, h1, fun h => ⟨rfl, h4 h⟩, fun _ => by simp [Re.kids]⟩) (fun y hy => ?_)
  rw [List.mem_singleton.1 hy]; exact hk

theorem nil_gen {op mn mx mode n : Int} {neg : Bool} (h0 : 0 ≤ op) (h1 : op ≤ 11) (h : op ≠ 4 ∧ op ≠ 3 ∧ op ≠ 10 ∧ op ≠ 5 ∧ op ≠ 9) : (Re.mk op [] [] mn mx mode n neg).every genB = true := by
  refine every_mk (decide_eq_true ⟨by simp [Re.set], by simp [Re.kids], h0, h1, fun h' => absurd h' h.1, fun h' => ?_⟩) (fun y hy => by cases hy)
  obtain ⟨_, a, b, c, d⟩ := h
  simp only [Re.op] at h'
  rcases h' with h' | h' | h' | h'
  · exact absurd h' a
  · exact absurd h' b
  · exact absurd h' c
  · exact absurd h' d

theorem repKid_gen {t : Mk → Re × Mk} (ht : ∀ m, (t m).1.every genB = true) (m : Mk) : (repKid t m).1.every genB = true := by
  unfold repKid
  simp only
  split
  · exact set_gen _
  · exact ht _

theorem rep_gen {t : Mk → Re × Mk} (ht : ∀ m, (t m).1.every genB = true) (m : Mk) : (m.rep t).1.every genB = true := by
  simp only [Mk.rep]
  have hk := pick_range m.l m.pos 12 (by omega)
  refine one_gen (repKid_gen ht _) (by omega) (by omega) (fun _ => ?_)
  have key : ∀ i : Nat, i < 12 → 0 ≤ (repMins[i]?).getD 0 ∧ (repMins[i]?).getD 0 ≤ 2 ∧ ((repMaxs[i]?).getD 0 = -1 ∨ (1 ≤ (repMaxs[i]?).getD 0 ∧ (repMaxs[i]?).getD 0 ≤ 3 ∧ (repMins[i]?).getD 0 ≤ (repMaxs[i]?).getD 0)) := by decide
  exact key (pick m.l m.pos 12).toNat (by omega)

theorem node_gen {t : Mk → Re × Mk} (ht : ∀ m, (t m).1.every genB = true) (k : Int) (m : Mk) : (Mk.node t k m).1.every genB = true := by
  obtain ⟨k1, k2⟩ := kidsFrom_gen ht 4 0 m
  have kn := kidsFrom_ne (t := t) m
  have kids : ∀ op : Int, (op = 2 ∨ op = 3) → (Re.node op (kidsFrom t 4 0 m).1).every genB = true := fun op h =>
    every_mk (decide_eq_true ⟨by simp [Re.set], k2, by simp only [Re.op]; omega, by simp only [Re.op]; omega, fun h' => by simp only [Re.op] at h'; omega, fun _ => kn⟩) k1
  unfold Mk.node
  split
  · exact kids 2 (.inl rfl)
  split
  · exact kids 3 (.inr rfl)
  split
  · exact rep_gen ht m
  split
  · exact one_gen (ht _) (by omega) (by omega) (fun h => by omega)
  split
  · exact one_gen (ht _) (by omega) (by omega) (fun h => by omega)
  split
  · exact nil_gen (by omega) (by omega) (by decide)
  split
  · have hp := pick_range (m.next 3).2.l (m.next 3).2.pos 2 (by omega)
    refine one_gen (ht _) ?_ ?_ (fun h => ?_) <;> simp only [Mk.next] at * <;> omega
  split
  · exact one_gen (ht _) (by omega) (by omega) (fun h => by omega)
  split
  · exact nil_gen (by omega) (by omega) (by decide)
  split
  · refine every_mk (decide_eq_true ⟨by simp [Re.set], by simp [Re.kids], by simp [Re.op], by simp [Re.op], fun h => by simp [Re.op] at h, fun _ => by simp [Re.kids]⟩) (fun y hy => ?_)
    rcases List.mem_cons.1 hy with rfl | hy
    · exact ht _
    · rw [List.mem_singleton.1 hy]; exact ht _
  · exact set_gen m

theorem tree_gen : ∀ (d : Nat) (m : Mk), (Mk.tree d m).1.every genB = true
  | 0, m => by
    simp only [Mk.tree]
    split
    · exact nil_gen (by omega) (by omega) (by decide)
    · exact set_gen _
  | d + 1, m => by
    simp only [Mk.tree]
    split
    · split
      · exact nil_gen (by omega) (by omega) (by decide)
      · exact set_gen _
    · exact node_gen (tree_gen d) _ _

theorem pat_gen (l : List Int) (uses most : Int) : (patOf l uses most).re.every genB = true := tree_gen 5 _

/-! ### The law -/

theorem around_range (n m : Int) (hm : 1 ≤ m) (hn : I64 n) : 0 ≤ around n m ∧ around n m < m := by
  unfold I64 at hn
  unfold around
  split
  · exact ⟨Int.tmod_nonneg _ (by omega), Int.tmod_lt_of_pos _ (by omega)⟩
  · exact ⟨Int.tmod_nonneg _ (by omega), Int.tmod_lt_of_pos _ (by omega)⟩

theorem expandR_cases (re : Re) (h : re.every exq = true) : (expandR re = (re.exp, 0) ∧ re.exp.fine = true) ∨ expandR re = (zeroR, 10) ∨ expandR re = (zeroR, 4) := by
  unfold expandR
  cases hx : re.exa with
  | false => right; left; rfl
  | true =>
    rw [if_neg (by decide)]
    split
    · right; right; rfl
    · exact .inl ⟨rfl, (exp_both re h hx).1⟩

set_option maxRecDepth 100000 in
set_option maxHeartbeats 8000000 in
theorem astLengths_ok (l : List Int) (uses : Int) (hl : ∀ x ∈ l, I64 x) (hu : I64 uses) : PureOK Try.prog 3 [.d (intsD l), i64 uses] (bV true) := by
  have hg := pat_gen l (around uses 128) 20
  have hpat := pattern_ok l (around uses 128) 20 hl (by omega) (by omega)
  have hq := gen_exq _ hg
  have hf := fine_of_exq _ hq
  have hlr := nul_lens _ hg
  have hexp := exp_lens _ hg
  have hlen := lengths_ok (patOf l (around uses 128) 20).re hf
  have hnul := nullable_ok (patOf l (around uses 128) 20).re hf
  have hex := expand_ok (patOf l (around uses 128) 20).re hq
  generalize patOf l (around uses 128) 20 = p at *
  obtain ⟨a0, a1, b0, b1, ab, nl⟩ := hlr
  have hab : p.re.anul = decide (p.re.lens.1 = 0) := by
    cases h : p.re.anul with
    | true => exact (decide_eq_true (nl.1 h)).symm
    | false => refine (decide_eq_false fun h' => ?_).symm; rw [nl.2 h'] at h; cases h
  rw [hab] at hnul
  obtain ⟨x, e, hxe, hle⟩ : ∃ x e, expandR p.re = (x, e) ∧ ((e = 0 ∧ PureOK Try.prog 14 [reV x] (.tu [i64 p.re.lens.1, i64 p.re.lens.2])) ∨ ((e = 10 ∨ e = 4) ∧ PureOK Try.prog 14 [reV x] (.tu [i64 0, i64 0]))) := by
    have z := lengths_ok zeroR (by decide)
    rw [show zeroR.lens = (0, 0) by decide] at z
    rcases expandR_cases p.re hq with ⟨h, hfx⟩ | h | h
    · refine ⟨_, _, h, .inl ⟨rfl, ?_⟩⟩
      have := lengths_ok p.re.exp hfx
      rwa [hexp] at this
    · exact ⟨_, _, h, .inr ⟨.inl rfl, z⟩⟩
    · exact ⟨_, _, h, .inr ⟨.inr rfl, z⟩⟩
  rw [hxe] at hex
  have hlv := lives_ok
  refine fn_ok Try.func3 rfl Try.ntmps3 Try.results3 rfl 0 4083 (by simp) (by simp) ?_
  simp only [vsA, vsB, vsC, appendWp, Nat.reduceShiftRight, Nat.reduceMod, Nat.reduceLT, Nat.reduceMul, Nat.reduceSub, Int.reduceToNat, Int.reduceNeg, Int.reduceLT, Int.reduceLE, Int.reduceEq, Nat.reduceEqDiff, Nat.reduceAdd, Nat.reduceLeDiff, reduceIte, reduceCtorEq, Nat.reduceBEq, tysA, i64]
  refine call_pure (around_ok uses 128 (by omega) hu) rfl rfl ?_
  simp only [vsA, vsB, vsC, appendWp, Nat.reduceShiftRight, Nat.reduceMod, Nat.reduceLT, Nat.reduceMul, Nat.reduceSub, Int.reduceToNat, Int.reduceNeg, Int.reduceLT, Int.reduceLE, Int.reduceEq, Nat.reduceEqDiff, Nat.reduceAdd, Nat.reduceLeDiff, reduceIte, reduceCtorEq, Nat.reduceBEq, tysA, i64]
  refine call_pure hpat rfl (by simp [refsV, refsV.go, patV, reV_eq, Re.cells_eq, i64, bV]) ?_
  simp only [vsA, vsB, vsC, appendWp, Nat.reduceShiftRight, Nat.reduceMod, Nat.reduceLT, Nat.reduceMul, Nat.reduceSub, Int.reduceToNat, Int.reduceNeg, Int.reduceLT, Int.reduceLE, Int.reduceEq, Nat.reduceEqDiff, Nat.reduceAdd, Nat.reduceLeDiff, reduceIte, reduceCtorEq, Nat.reduceBEq, tysA, i64, patV, bV, take_cells_app, drop_cells_app, List.length_append]
  refine call_pure hlen (by simp [refsV, refsV.go, reV_eq, i64, bV, reEl]) rfl ?_
  simp only [vsA, vsB, vsC, appendWp, Nat.reduceShiftRight, Nat.reduceMod, Nat.reduceLT, Nat.reduceMul, Nat.reduceSub, Int.reduceToNat, Int.reduceNeg, Int.reduceLT, Int.reduceLE, Int.reduceEq, Nat.reduceEqDiff, Nat.reduceAdd, Nat.reduceLeDiff, reduceIte, reduceCtorEq, Nat.reduceBEq, tysA, i64, patV, bV, take_cells_app, drop_cells_app, List.length_append]
  refine call_pure hnul (by simp [refsV, refsV.go, reV_eq, i64, bV, reEl]) rfl ?_
  have hlt : p.re.lens.2 = -1 ∨ ¬ p.re.lens.2 < p.re.lens.1 := by omega
  by_cases hb : p.re.lens.2 = -1
  all_goals
    by_cases hz : p.re.lens.1 = 0
    all_goals
      have hlt0 : p.re.lens.2 = -1 ∨ ¬ p.re.lens.2 < 0 := by omega
      simp only [hb, Int.reduceNeg, false_or] at hlt hlt0
      simp only [vsA, vsB, vsC, appendWp, Nat.reduceShiftRight, Nat.reduceMod, Nat.reduceLT, Nat.reduceMul, Nat.reduceSub, Int.reduceToNat, Int.reduceNeg, Int.reduceLT, Int.reduceLE, Int.reduceEq, Nat.reduceEqDiff, Nat.reduceAdd, Nat.reduceLeDiff, reduceIte, reduceCtorEq, Nat.reduceBEq, tysA, i64, patV, bV, take_cells_app, drop_cells_app, List.length_append, hz, hb, hlt, hlt0, beq_self_eq_true]
      refine call_pure hex (by simp [refsV, refsV.go, reV_eq, i64, bV, reEl]) (by simp [refsV, refsV.go, reV_eq, i64, bV, reEl]) ?_
      rcases hle with ⟨rfl, hle⟩ | ⟨rfl | rfl, hle⟩
      all_goals
        simp only [vsA, vsB, vsC, appendWp, Nat.reduceShiftRight, Nat.reduceMod, Nat.reduceLT, Nat.reduceMul, Nat.reduceSub, Int.reduceToNat, Int.reduceNeg, Int.reduceLT, Int.reduceLE, Int.reduceEq, Nat.reduceEqDiff, Nat.reduceAdd, Nat.reduceLeDiff, reduceIte, reduceCtorEq, Nat.reduceBEq, tysA, i64, patV, bV, take_cells_app, drop_cells_app, List.length_append, hz, hb, hlt, hlt0, beq_self_eq_true]
        refine call_pure hle (by simp [refsV, refsV.go, reV_eq, i64, bV, reEl]) rfl ?_
        simp only [vsA, vsB, vsC, appendWp, Nat.reduceShiftRight, Nat.reduceMod, Nat.reduceLT, Nat.reduceMul, Nat.reduceSub, Int.reduceToNat, Int.reduceNeg, Int.reduceLT, Int.reduceLE, Int.reduceEq, Nat.reduceEqDiff, Nat.reduceAdd, Nat.reduceLeDiff, reduceIte, reduceCtorEq, Nat.reduceBEq, tysA, i64, patV, bV, take_cells_app, drop_cells_app, List.length_append, hz, hb, hlt, hlt0, beq_self_eq_true]
        refine call_pure hlv rfl rfl ?_
        simp only [vsA, vsB, vsC, appendWp, Nat.reduceShiftRight, Nat.reduceMod, Nat.reduceLT, Nat.reduceMul, Nat.reduceSub, Int.reduceToNat, Int.reduceNeg, Int.reduceLT, Int.reduceLE, Int.reduceEq, Nat.reduceEqDiff, Nat.reduceAdd, Nat.reduceLeDiff, reduceIte, reduceCtorEq, Nat.reduceBEq, tysA, i64, patV, bV, take_cells_app, drop_cells_app, List.length_append, hz, hb, hlt, hlt0, beq_self_eq_true]
        all_goals first | exact ⟨rfl, rfl⟩ | exact ⟨rfl, trivial⟩ | rfl | trivial | (rw [reV_eq]; rfl)

end Go.Proofs.Ytafbdphblilenaa
