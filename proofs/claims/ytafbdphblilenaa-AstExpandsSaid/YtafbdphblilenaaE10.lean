/- Part of the proof: the program logic, or what some functions compute (F62 F63). -/
import Derived.Test.YtafbdphblilenaaE2
import Derived.Test.YtafbdphblilenaaE9
set_option linter.unusedSimpArgs false
set_option linter.unusedVariables false
set_option linter.unusedSimpArgs false
set_option linter.unusedVariables false
namespace Go.Proofs.Ytafbdphblilenaa
open Go.VL

/-! ### The numbers of captures: the reference -/

def addAll (a l : List Int) : List Int := l.foldl (fun a x => if x ∈ a then a else a ++ [x]) a

theorem addAll_snoc (a l : List Int) (x : Int) : addAll a (l ++ [x]) = if x ∈ addAll a l then addAll a l else addAll a l ++ [x] := by
  unfold addAll; rw [List.foldl_append]; rfl

theorem addAll_len (a : List Int) : ∀ l : List Int, (addAll a l).length ≤ a.length + l.length := by
  intro l
  induction l generalizing a with
  | nil => simp [addAll]
  | cons x l ih =>
    have h := ih (if x ∈ a then a else a ++ [x])
    simp only [addAll, List.foldl_cons, List.length_cons] at h ⊢
    split at h <;> rename_i hx
    · rw [if_pos hx]; omega
    · rw [if_neg hx]; simp only [List.length_append, List.length_cons, List.length_nil] at h; omega

theorem addAll_mem (a l : List Int) {x : Int} (h : x ∈ a ∨ x ∈ l) : x ∈ addAll a l := by
  induction l generalizing a with
  | nil => simpa [addAll] using h
  | cons y l ih =>
    simp only [addAll, List.foldl_cons]
    apply ih
    rcases h with h | h
    · left; split
      · exact h
      · simp [h]
    · rcases List.mem_cons.1 h with rfl | h
      · left; split
        · assumption
        · simp
      · exact .inr h

theorem addAll_assoc (a : List Int) : ∀ (l b : List Int), addAll a (addAll b l) = addAll (addAll a b) l := by
  intro l
  induction l with
  | nil => intro b; simp [addAll]
  | cons x l ih =>
    intro b
    have e1 : addAll b (x :: l) = addAll (if x ∈ b then b else b ++ [x]) l := rfl
    have e2 : addAll (addAll a b) (x :: l) = addAll (if x ∈ addAll a b then addAll a b else addAll a b ++ [x]) l := rfl
    rw [e1, e2, ih]
    congr 1
    by_cases hx : x ∈ b
    · rw [if_pos hx, if_pos (addAll_mem a b (.inr hx))]
    · rw [if_neg hx, addAll_snoc]

mutual
def Re.numsR : Re → List Int
  | .mk op _ kids _ _ _ n _ => Re.numsRL kids (if op = 5 then [n] else [])
def Re.numsRL : List Re → List Int → List Int
  | [], a => a
  | k :: l, a => Re.numsRL l (addAll a k.numsR)
end

theorem Re.numsR_eq (re : Re) : re.numsR = Re.numsRL re.kids (if re.op = 5 then [re.n] else []) := by
  cases re; rw [Re.numsR]; rfl

theorem Re.numsRL_snoc : ∀ (l : List Re) (k : Re) (a : List Int), Re.numsRL (l ++ [k]) a = addAll (Re.numsRL l a) k.numsR
  | [], k, a => by simp [Re.numsRL]
  | x :: l, k, a => by simp only [List.cons_append, Re.numsRL, Re.numsRL_snoc l k]

theorem Re.numsRL_len {l : List Re} (h : ∀ k ∈ l, k.numsR.length ≤ k.size) : ∀ a : List Int, (Re.numsRL l a).length ≤ a.length + Re.sizeL l := by
  induction l with
  | nil => intro a; simp [Re.numsRL, Re.sizeL]
  | cons k l ih =>
    intro a
    have h1 := ih (fun x hx => h x (by simp [hx])) (addAll a k.numsR)
    have h2 := addAll_len a k.numsR
    have h3 := h k (by simp)
    simp only [Re.numsRL, Re.sizeL]
    omega

theorem Re.numsR_len (re : Re) : re.numsR.length ≤ re.size := by
  refine Re.ind (Q := fun re => re.numsR.length ≤ re.size) (fun re ih => ?_) re
  have := Re.numsRL_len ih (if re.op = 5 then [re.n] else [])
  rw [Re.numsR_eq, Re.size_eq]
  split at this
  · rename_i h; rw [if_pos h]; simp only [List.length_cons, List.length_nil] at this; omega
  · rename_i h; rw [if_neg h]; simp only [List.length_nil] at this; omega

set_option maxRecDepth 100000 in
set_option maxHeartbeats 8000000 in
theorem has_ok (l : List Int) (x : Int) (hl : l.length ≤ 1000000000) : PureOK Try.prog 79 [.d (intsD l), i64 x] (bV (decide (x ∈ l))) := by
  refine fn_ok Try.func79 rfl Try.ntmps79 Try.results79 rfl 0 51 (by simp) (by simp) ?_
  simp only [vsL, vsB, vsC, appendWp, Nat.reduceShiftRight, Nat.reduceMod, Nat.reduceLT, Nat.reduceMul, Nat.reduceSub, Int.reduceToNat, Int.reduceNeg, Int.reduceLT, Int.reduceLE, Int.reduceEq, Nat.reduceEqDiff, Nat.reduceAdd, Nat.reduceLeDiff, reduceIte, reduceCtorEq, Nat.reduceBEq, tysA, i64]
  refine loop_rule (fun n e s => ∃ i : Nat, n = l.length - i ∧ i ≤ l.length ∧ e 0 = .d (intsD l) ∧ e 1 = i64 x ∧ e 5 = i64 i ∧ s = [] ∧ x ∉ l.take i)
    ⟨_, _, _, Cln.refl, 0, rfl, by omega, rfl, rfl, rfl, rfl, by simp⟩ ?_
  rintro n e s ⟨i, rfl, hi, h0, h1, h5, rfl, hno⟩
  rcases Nat.lt_or_ge i l.length with hlt | hge
  · obtain ⟨y, hy⟩ : ∃ y, l[i]? = some y := ⟨_, List.getElem?_eq_getElem hlt⟩
    by_cases hxy : y = x
    · simp only [vsL, vsB, vsC, appendWp, Nat.reduceShiftRight, Nat.reduceMod, Nat.reduceLT, Nat.reduceMul, Nat.reduceSub, Int.reduceToNat, Int.reduceNeg, Int.reduceLT, Int.reduceLE, Int.reduceEq, Nat.reduceEqDiff, Nat.reduceAdd, Nat.reduceLeDiff, reduceIte, reduceCtorEq, Nat.reduceBEq, tysA, i64, intsD, iD, h0, h1, h5, hlt, hy, hxy]
      rw [decide_eq_true (by rw [← hxy]; exact List.mem_of_getElem? hy)]
      all_goals first | exact ⟨rfl, rfl⟩ | exact ⟨rfl, trivial⟩ | rfl | trivial | (rw [reV_eq]; rfl)
    · simp only [vsL, vsB, vsC, appendWp, Nat.reduceShiftRight, Nat.reduceMod, Nat.reduceLT, Nat.reduceMul, Nat.reduceSub, Int.reduceToNat, Int.reduceNeg, Int.reduceLT, Int.reduceLE, Int.reduceEq, Nat.reduceEqDiff, Nat.reduceAdd, Nat.reduceLeDiff, reduceIte, reduceCtorEq, Nat.reduceBEq, tysA, i64, intsD, iD, h0, h1, h5, hlt, hy, hxy]
      refine ⟨l.length - (i + 1), _, _, by omega, Cln.refl, i + 1, rfl, hlt, ?_, ?_, ?_, rfl, by rw [take_get hy]; simp [hno, Ne.symm hxy]⟩ <;> (try simp only [keepE_app, List.contains_cons, List.contains_nil, Nat.reduceBEq, Bool.or_false, Bool.false_or, Bool.or_true, Bool.true_or, updE, trimE_upd, trimE_trim, trimE_app, Nat.reduceShiftRight, Nat.reduceMod, Nat.reduceEqDiff, if_true, if_false, reduceIte])
      · exact h0
      · exact h1
      · rw [w64 _ (by omega)]; rfl
  · have hie : i = l.length := by omega
    subst hie
    rw [List.take_length] at hno
    simp only [vsL, vsB, vsC, appendWp, Nat.reduceShiftRight, Nat.reduceMod, Nat.reduceLT, Nat.reduceMul, Nat.reduceSub, Int.reduceToNat, Int.reduceNeg, Int.reduceLT, Int.reduceLE, Int.reduceEq, Nat.reduceEqDiff, Nat.reduceAdd, Nat.reduceLeDiff, reduceIte, reduceCtorEq, Nat.reduceBEq, tysA, i64, intsD, iD, h0, h1, h5, Nat.lt_irrefl]
    rw [decide_eq_false hno]
    all_goals first | exact ⟨rfl, rfl⟩ | exact ⟨rfl, trivial⟩ | rfl | trivial | (rw [reV_eq]; rfl)

def numEls (l : List Int) : List (List D) := l.map fun x => [iD x]

set_option maxRecDepth 100000 in
set_option maxHeartbeats 16000000 in
theorem refNumbers_ok (re : Re) (hs : re.size ≤ 100000) : PureOK Try.prog 39 [reV re] (.d (intsD re.numsR)) := by
  revert hs
  refine Re.ind (Q := fun re => re.size ≤ 100000 → PureOK Try.prog 39 [reV re] (.d (intsD re.numsR))) (fun re ih hs => ?_) re
  have hlen := Re.len_le re.kids
  have hsz := Re.size_eq re
  rw [Re.numsR_eq]
  let B : List VL.Obj := [⟨0, true, 8, [re.cells.map .d]⟩]
  refine fn_ok Try.func39 rfl Try.ntmps39 Try.results39 rfl 0 127 (by simp) (by simp) ?_
  have hB0 : B = [⟨0, true, 8, [re.cells.map .d]⟩] := rfl
  rw [Re.cells_eq re] at hB0
  simp only [iD, bD, List.map_cons, List.map_nil] at hB0
  by_cases hop : re.op = 5
  case' pos =>
    simp only [vsL, vsB, vsC, Nat.reduceShiftRight, Nat.reduceMod, Nat.reduceLT, Nat.reduceMul, Nat.reduceSub, Int.reduceToNat, Int.reduceNeg, Int.reduceLT, Int.reduceLE, Int.reduceEq, Nat.reduceEqDiff, Nat.reduceAdd, Nat.reduceLeDiff, reduceIte, reduceCtorEq, Nat.reduceBEq, tysA, i64, reV_eq re, iD, bD, hop]
    refine Acc.append (base := B) (sz := 1) (l := []) (ns := [[iD re.n]]) (.inl ⟨rfl, by rw [hB0, hop]⟩) slTy22 rfl (by decide) (by decide) (by simp) (by simp) (by simp) (by simp) (fun v' s' hacc => ?_)
    simp only [vsL, vsB, vsC, Nat.reduceShiftRight, Nat.reduceMod, Nat.reduceLT, Nat.reduceMul, Nat.reduceSub, Int.reduceToNat, Int.reduceNeg, Int.reduceLT, Int.reduceLE, Int.reduceEq, Nat.reduceEqDiff, Nat.reduceAdd, Nat.reduceLeDiff, reduceIte, reduceCtorEq, Nat.reduceBEq, tysA, i64, iD, bD]
    have hil : ([re.n] : List Int).length ≤ 1 := Nat.le_refl _
    have hacc : Acc B 1 v' s' (numEls [re.n]) := hacc
    generalize [re.n] = init at hacc hil ⊢
  case' neg =>
    simp only [vsL, vsB, vsC, Nat.reduceShiftRight, Nat.reduceMod, Nat.reduceLT, Nat.reduceMul, Nat.reduceSub, Int.reduceToNat, Int.reduceNeg, Int.reduceLT, Int.reduceLE, Int.reduceEq, Nat.reduceEqDiff, Nat.reduceAdd, Nat.reduceLeDiff, reduceIte, reduceCtorEq, Nat.reduceBEq, tysA, i64, reV_eq re, iD, bD, hop]
    have hil : ([] : List Int).length ≤ 1 := Nat.zero_le _
    have hacc : Acc B 1 (.fu []) _ (numEls []) := .inl ⟨rfl, hB0.symm⟩
    generalize ([] : List Int) = init at hacc hil ⊢
  all_goals
    refine loop_rule (fun n e s => ∃ i : Nat, n = re.kids.length - i ∧ i ≤ re.kids.length ∧ e 1 = .rf 0 0 0 0 ∧ e 4 = i64 i ∧ Acc B 1 (e 3) s (numEls (Re.numsRL (re.kids.take i) init)))
      ⟨_, _, _, Cln.refl, 0, rfl, by omega, rfl, rfl, hacc⟩ ?_
    clear hacc
    rintro n e s ⟨i, rfl, hi, h1, h4, hacc⟩
    have hB := hacc.get (id := 0) (o := ⟨0, true, 8, [re.cells.map .d]⟩) rfl
    rw [Re.cells_eq re] at hB
    simp only [iD, bD, List.map_cons, List.map_nil] at hB
    rcases Nat.lt_or_ge i re.kids.length with hlt | hge
    · obtain ⟨k, hk⟩ : ∃ k, re.kids[i]? = some k := ⟨_, List.getElem?_eq_getElem hlt⟩
      have hm := List.mem_of_getElem? hk
      have hks := Re.size_kid hm
      have hps := k.numsR_len
      have hal := Re.numsRL_len (l := re.kids.take i) (fun x _ => x.numsR_len) init
      have htl := Re.sizeL_take re.kids i
      have hsn : Re.numsRL (re.kids.take (i + 1)) init = addAll (Re.numsRL (re.kids.take i) init) k.numsR := by rw [take_get hk, Re.numsRL_snoc]
      simp only [vsL, vsB, vsC, appendWp, Nat.reduceShiftRight, Nat.reduceMod, Nat.reduceLT, Nat.reduceMul, Nat.reduceSub, Int.reduceToNat, Int.reduceNeg, Int.reduceLT, Int.reduceLE, Int.reduceEq, Nat.reduceEqDiff, Nat.reduceAdd, Nat.reduceLeDiff, reduceIte, reduceCtorEq, Nat.reduceBEq, tysA, i64, iD, bD, h1, h4, hB, hlt, hk]
      refine call_pure (ih k hm (by omega)) (by simp [refsV, refsV.go, reV_eq, i64, bV, reEl]) (by simp [refsV, refsV.go, reV_eq, i64, bV, reEl]) ?_
      generalize k.numsR = ps at *
      generalize Re.numsRL (re.kids.take i) init = A at *
      simp only [vsL, vsB, vsC, appendWp, Nat.reduceShiftRight, Nat.reduceMod, Nat.reduceLT, Nat.reduceMul, Nat.reduceSub, Int.reduceToNat, Int.reduceNeg, Int.reduceLT, Int.reduceLE, Int.reduceEq, Nat.reduceEqDiff, Nat.reduceAdd, Nat.reduceLeDiff, reduceIte, reduceCtorEq, Nat.reduceBEq, tysA, i64, iD, bD, h1, h4, hB]
      refine loop_rule (fun n e s => ∃ j : Nat, n = ps.length - j ∧ j ≤ ps.length ∧ e 1 = .rf 0 0 0 0 ∧ e 4 = i64 i ∧ e 5 = .d (intsD ps) ∧ e 6 = i64 j ∧ Acc B 1 (e 3) s (numEls (addAll A (ps.take j))))
        ⟨_, _, _, Cln.refl, 0, rfl, by omega, ?_, ?_, rfl, rfl, ?_⟩ ?_ <;> (try simp only [keepE_app, List.contains_cons, List.contains_nil, Nat.reduceBEq, Bool.or_false, Bool.false_or, Bool.or_true, Bool.true_or, updE, trimE_upd, trimE_trim, trimE_app, Nat.reduceShiftRight, Nat.reduceMod, Nat.reduceEqDiff, if_true, if_false, reduceIte])
      · exact h1
      · exact h4
      · simpa [addAll] using hacc
      clear hacc h1 h4 hB
      rintro n e s ⟨j, rfl, hj, h1, h4, h5, h6, hacc⟩
      have hB := hacc.get (id := 0) (o := ⟨0, true, 8, [re.cells.map .d]⟩) rfl
      rw [Re.cells_eq re] at hB
      simp only [iD, bD, List.map_cons, List.map_nil] at hB
      rcases Nat.lt_or_ge j ps.length with hjl | hjg
      · obtain ⟨x, hx⟩ : ∃ x, ps[j]? = some x := ⟨_, List.getElem?_eq_getElem hjl⟩
        have hL := addAll_len A (ps.take j)
        rw [List.length_take] at hL
        have hsx := addAll_snoc A (ps.take j) x
        rw [← take_get hx] at hsx
        have hh := has_ok (addAll A (ps.take j)) x (by omega)
        generalize addAll A (ps.take j) = L at *
        by_cases hin : x ∈ L
        · rw [decide_eq_true hin] at hh
          rw [if_pos hin] at hsx
          simp only [vsL, vsB, vsC, Nat.reduceShiftRight, Nat.reduceMod, Nat.reduceLT, Nat.reduceMul, Nat.reduceSub, Int.reduceToNat, Int.reduceNeg, Int.reduceLT, Int.reduceLE, Int.reduceEq, Nat.reduceEqDiff, Nat.reduceAdd, Nat.reduceLeDiff, reduceIte, reduceCtorEq, Nat.reduceBEq, tysA, i64, iD, bD, h1, h4, h5, h6, hB, intsD, hjl, hx]
          refine hacc.lend (rs := [.sc (.int .i64 x)]) hh ?_
          simp only [vsL, vsB, vsC, Nat.reduceShiftRight, Nat.reduceMod, Nat.reduceLT, Nat.reduceMul, Nat.reduceSub, Int.reduceToNat, Int.reduceNeg, Int.reduceLT, Int.reduceLE, Int.reduceEq, Nat.reduceEqDiff, Nat.reduceAdd, Nat.reduceLeDiff, reduceIte, reduceCtorEq, Nat.reduceBEq, tysA, i64, iD, bD, bV, h1, h4, h5, h6, hB]
          refine ⟨ps.length - (j + 1), _, _, by omega, Cln.refl, j + 1, rfl, hjl, ?_, ?_, ?_, ?_, ?_⟩ <;> (try simp only [keepE_app, List.contains_cons, List.contains_nil, Nat.reduceBEq, Bool.or_false, Bool.false_or, Bool.or_true, Bool.true_or, updE, trimE_upd, trimE_trim, trimE_app, Nat.reduceShiftRight, Nat.reduceMod, Nat.reduceEqDiff, if_true, if_false, reduceIte])
          · exact h1
          · exact h4
          · exact h5
          · rw [w64 _ (by omega)]; rfl
          · rw [hsx]; exact hacc
        · rw [decide_eq_false hin] at hh
          rw [if_neg hin] at hsx
          simp only [vsL, vsB, vsC, Nat.reduceShiftRight, Nat.reduceMod, Nat.reduceLT, Nat.reduceMul, Nat.reduceSub, Int.reduceToNat, Int.reduceNeg, Int.reduceLT, Int.reduceLE, Int.reduceEq, Nat.reduceEqDiff, Nat.reduceAdd, Nat.reduceLeDiff, reduceIte, reduceCtorEq, Nat.reduceBEq, tysA, i64, iD, bD, h1, h4, h5, h6, hB, intsD, hjl, hx]
          refine hacc.lend (rs := [.sc (.int .i64 x)]) hh ?_
          simp only [vsL, vsB, vsC, Nat.reduceShiftRight, Nat.reduceMod, Nat.reduceLT, Nat.reduceMul, Nat.reduceSub, Int.reduceToNat, Int.reduceNeg, Int.reduceLT, Int.reduceLE, Int.reduceEq, Nat.reduceEqDiff, Nat.reduceAdd, Nat.reduceLeDiff, reduceIte, reduceCtorEq, Nat.reduceBEq, tysA, i64, iD, bD, bV, h1, h4, h5, h6, hB, intsD, hjl, hx]
          refine hacc.append slTy22 rfl (by decide) (by decide) (by intro y hy; obtain ⟨z, _, rfl⟩ := List.mem_map.1 hy; rfl) (by simp) (by simp) (by simp only [numEls, List.length_map, List.length_cons, List.length_nil]; omega) (fun v' s' hacc' => ?_)
          simp only [vsL, vsB, vsC, Nat.reduceShiftRight, Nat.reduceMod, Nat.reduceLT, Nat.reduceMul, Nat.reduceSub, Int.reduceToNat, Int.reduceNeg, Int.reduceLT, Int.reduceLE, Int.reduceEq, Nat.reduceEqDiff, Nat.reduceAdd, Nat.reduceLeDiff, reduceIte, reduceCtorEq, Nat.reduceBEq, tysA, i64, iD, bD, h1, h4, h5, h6]
          refine ⟨ps.length - (j + 1), _, _, by omega, Cln.refl, j + 1, rfl, hjl, ?_, ?_, ?_, ?_, ?_⟩ <;> (try simp only [keepE_app, List.contains_cons, List.contains_nil, Nat.reduceBEq, Bool.or_false, Bool.false_or, Bool.or_true, Bool.true_or, updE, trimE_upd, trimE_trim, trimE_app, Nat.reduceShiftRight, Nat.reduceMod, Nat.reduceEqDiff, if_true, if_false, reduceIte])
          · exact h1
          · exact h4
          · exact h5
          · rw [w64 _ (by omega)]; rfl
          · rw [hsx]
            simpa [numEls, iD] using hacc'
      · have hje : j = ps.length := by omega
        subst hje
        rw [List.take_length] at hacc
        simp only [vsL, vsB, vsC, Nat.reduceShiftRight, Nat.reduceMod, Nat.reduceLT, Nat.reduceMul, Nat.reduceSub, Int.reduceToNat, Int.reduceNeg, Int.reduceLT, Int.reduceLE, Int.reduceEq, Nat.reduceEqDiff, Nat.reduceAdd, Nat.reduceLeDiff, reduceIte, reduceCtorEq, Nat.reduceBEq, tysA, i64, iD, bD, h1, h4, h5, h6, hB, intsD, Nat.lt_irrefl]
        refine ⟨re.kids.length - (i + 1), _, _, by omega, Cln.refl, i + 1, rfl, hlt, ?_, ?_, ?_⟩ <;> (try simp only [keepE_app, List.contains_cons, List.contains_nil, Nat.reduceBEq, Bool.or_false, Bool.false_or, Bool.or_true, Bool.true_or, updE, trimE_upd, trimE_trim, trimE_app, Nat.reduceShiftRight, Nat.reduceMod, Nat.reduceEqDiff, if_true, if_false, reduceIte])
        · exact h1
        · rw [w64 _ (by omega)]; rfl
        · rw [hsn]; exact hacc
    · have hie : i = re.kids.length := by omega
      subst hie
      rw [List.take_length] at hacc
      simp only [vsL, vsB, vsC, Nat.reduceShiftRight, Nat.reduceMod, Nat.reduceLT, Nat.reduceMul, Nat.reduceSub, Int.reduceToNat, Int.reduceNeg, Int.reduceLT, Int.reduceLE, Int.reduceEq, Nat.reduceEqDiff, Nat.reduceAdd, Nat.reduceLeDiff, reduceIte, reduceCtorEq, Nat.reduceBEq, tysA, i64, iD, bD, h1, h4, hB, Nat.lt_irrefl]
      rw [hacc.frz (by simp)]
      rfl

end Go.Proofs.Ytafbdphblilenaa

set_option linter.unusedSimpArgs false
set_option linter.unusedVariables false
namespace Go.Proofs.Ytafbdphblilenaa
open Go.VL

/-! ### The numbers of captures: the code -/

theorem Re.numsRL_add (a : List Int) : ∀ (l : List Re) (b : List Int), Re.numsRL l (addAll a b) = addAll a (Re.numsRL l b)
  | [], b => rfl
  | k :: l, b => by
    simp only [Re.numsRL]
    rw [← addAll_assoc, Re.numsRL_add a l]

def seenL (a : List Int) : List (Int × Bool) := a.map fun x => (x, true)

theorem mapG_seen (a : List Int) (n : Int) : mapG (seenL a) n = if n ∈ a then some true else none := by
  induction a with
  | nil => rfl
  | cons x a ih =>
    simp only [mapG, seenL, List.map_cons, List.find?_cons] at ih ⊢
    by_cases h : n = x
    · subst h; simp
    · have hb : (n == x) = false := by simpa using h
      rw [hb]
      simp only [List.mem_cons, h, false_or]
      exact ih

theorem mapE_refs (k : IntKind) (n : Nat) (l : List (Int × Bool)) : ∀ x ∈ mapE k l, ∀ y ∈ x, refsV n y = true := by
  intro x hx y hy
  obtain ⟨p, _, rfl⟩ := List.mem_map.1 hx
  simp only [List.mem_cons, List.not_mem_nil, or_false] at hy
  rcases hy with rfl | rfl <;> rfl

theorem tyMap : mapTy Try.prog 86 = some .i64 := by kernel_rfl

def cell3N (f : FuncId) : VL.Obj := ⟨0, true, 1, [[.cl (.func f) [] [.rf 0 0 0 0, .rf 1 0 0 0, .rf 2 0 0 0]]]⟩

def numS (f : FuncId) (a : List Int) : List VL.Obj := [⟨0, true, 1, [[.mp 3 0]]⟩, ⟨0, true, 1, [[.so 4 a.length 0 a.length]]⟩, cell3N f, ⟨0, true, 2, mapE .i64 (seenL a)⟩, ⟨a.length, true, 1, a.map fun x => [V.d (iD x)]⟩]

def NumOK (re : Re) : Prop := ∀ a : List Int, a.length + re.size ≤ 1000000 → callWp Try.prog 76 [reEl re, .rf 0 0 0 0, .rf 1 0 0 0, .rf 2 0 0 0] (numS 76 a) fun v s => v = .tu [] ∧ s = numS 76 (addAll a re.numsR)

set_option maxRecDepth 100000 in
set_option maxHeartbeats 16000000 in
theorem numbers_rec (re : Re) (hs : re.fine = true) : NumOK re := by
  revert hs
  refine Re.ind (Q := fun re => re.fine = true → NumOK re) (fun re ih hs => ?_) re
  intro a ha
  obtain ⟨hset1, hlen, hfk⟩ := Re.fine_spec hs
  have hsz := Re.size_eq re
  rw [Re.numsR_eq, ← Re.numsRL_add]
  obtain ⟨A, hAd⟩ : ∃ A, A = addAll a (if re.op = 5 then [re.n] else []) := ⟨_, rfl⟩
  rw [← hAd]
  have hG := mapG_seen a re.n
  have hM := mapL_mapE .i64 (seenL a)
  have hAl : A.length ≤ a.length + 1 := by
    have := addAll_len a (if re.op = 5 then [re.n] else [])
    rw [← hAd] at this
    split at this
    · exact this
    · simp only [List.length_nil] at this; omega
  unfold numS cell3N
  refine fn_ok Try.func76 rfl Try.ntmps76 Try.results76 rfl 5 206158430255 (by simp) (by simp) ?_
  by_cases hop : re.op = 5
  case' neg =>
    rw [if_neg hop] at hAd
    have hA : A = a := hAd
    clear hAd
    simp only [vsL, vsB, vsC, appendWp, Nat.reduceShiftRight, Nat.reduceMod, Nat.reduceLT, Nat.reduceMul, Nat.reduceSub, Int.reduceToNat, Int.reduceNeg, Int.reduceLT, Int.reduceLE, Int.reduceEq, Nat.reduceEqDiff, Nat.reduceAdd, Nat.reduceLeDiff, reduceIte, reduceCtorEq, Nat.reduceBEq, tysA, i64, reEl, Re.cells_eq re, iD, bD]
    refine draw_c mix [] [] (by rfl) ?_
    simp only [vsL, vsB, vsC, appendWp, Nat.reduceShiftRight, Nat.reduceMod, Nat.reduceLT, Nat.reduceMul, Nat.reduceSub, Int.reduceToNat, Int.reduceNeg, Int.reduceLT, Int.reduceLE, Int.reduceEq, Nat.reduceEqDiff, Nat.reduceAdd, Nat.reduceLeDiff, reduceIte, reduceCtorEq, Nat.reduceBEq, tysA, i64, reEl, Re.cells_eq re, iD, bD, hop]
  case' pos =>
    rw [if_pos hop] at hAd
    by_cases hin : re.n ∈ a
    case' pos =>
      have hA : A = a := by rw [hAd]; simp only [addAll, List.foldl_cons, List.foldl_nil]; rw [if_pos hin]
      clear hAd
      rw [if_pos hin] at hG
      simp only [vsL, vsB, vsC, appendWp, Nat.reduceShiftRight, Nat.reduceMod, Nat.reduceLT, Nat.reduceMul, Nat.reduceSub, Int.reduceToNat, Int.reduceNeg, Int.reduceLT, Int.reduceLE, Int.reduceEq, Nat.reduceEqDiff, Nat.reduceAdd, Nat.reduceLeDiff, reduceIte, reduceCtorEq, Nat.reduceBEq, tysA, i64, reEl, Re.cells_eq re, iD, bD]
      refine draw_c mix [] [] (by rfl) ?_
      simp only [vsL, vsB, vsC, appendWp, Nat.reduceShiftRight, Nat.reduceMod, Nat.reduceLT, Nat.reduceMul, Nat.reduceSub, Int.reduceToNat, Int.reduceNeg, Int.reduceLT, Int.reduceLE, Int.reduceEq, Nat.reduceEqDiff, Nat.reduceAdd, Nat.reduceLeDiff, reduceIte, reduceCtorEq, Nat.reduceBEq, tysA, i64, reEl, Re.cells_eq re, iD, bD, hop, tyMap, hM, hG, Option.getD_some]
    case' neg =>
      have hA : A = a ++ [re.n] := by rw [hAd]; simp only [addAll, List.foldl_cons, List.foldl_nil]; rw [if_neg hin]
      clear hAd
      rw [if_neg hin] at hG
      simp only [vsL, vsB, vsC, appendWp, Nat.reduceShiftRight, Nat.reduceMod, Nat.reduceLT, Nat.reduceMul, Nat.reduceSub, Int.reduceToNat, Int.reduceNeg, Int.reduceLT, Int.reduceLE, Int.reduceEq, Nat.reduceEqDiff, Nat.reduceAdd, Nat.reduceLeDiff, reduceIte, reduceCtorEq, Nat.reduceBEq, tysA, i64, reEl, Re.cells_eq re, iD, bD]
      refine draw_c mix [] [] (by rfl) ?_
      simp only [vsL, vsB, vsC, appendWp, Nat.reduceShiftRight, Nat.reduceMod, Nat.reduceLT, Nat.reduceMul, Nat.reduceSub, Int.reduceToNat, Int.reduceNeg, Int.reduceLT, Int.reduceLE, Int.reduceEq, Nat.reduceEqDiff, Nat.reduceAdd, Nat.reduceLeDiff, reduceIte, reduceCtorEq, Nat.reduceBEq, tysA, i64, reEl, Re.cells_eq re, iD, bD, hop, tyMap, hM, hG, Option.getD_none]
      refine draw_c mix [5] [] (by rfl) ?_
      simp only [vsL, vsB, vsC, appendWp, Nat.reduceShiftRight, Nat.reduceMod, Nat.reduceLT, Nat.reduceMul, Nat.reduceSub, Int.reduceToNat, Int.reduceNeg, Int.reduceLT, Int.reduceLE, Int.reduceEq, Nat.reduceEqDiff, Nat.reduceAdd, Nat.reduceLeDiff, reduceIte, reduceCtorEq, Nat.reduceBEq, tysA, i64, reEl, Re.cells_eq re, iD, bD, hop, tyMap, hM, hG, Option.getD_none]
      refine draw_c mix [6, 7] [] (by rfl) ?_
      simp only [vsL, vsB, vsC, appendWp, Nat.reduceShiftRight, Nat.reduceMod, Nat.reduceLT, Nat.reduceMul, Nat.reduceSub, Int.reduceToNat, Int.reduceNeg, Int.reduceLT, Int.reduceLE, Int.reduceEq, Nat.reduceEqDiff, Nat.reduceAdd, Nat.reduceLeDiff, reduceIte, reduceCtorEq, Nat.reduceBEq, tysA, i64, reEl, Re.cells_eq re, iD, bD, hop]
      refine ⟨by simp, ⟨by omega, by omega⟩, ?_⟩
  all_goals
    refine loop_rule (fun n e s => ∃ i : Nat, n = re.kids.length - i ∧ i ≤ re.kids.length ∧ e 0 = reEl re ∧ e 1 = .rf 0 0 0 0 ∧ e 2 = .rf 1 0 0 0 ∧ e 3 = .rf 2 0 0 0 ∧ e 36 = i64 re.kids.length ∧ e 37 = i64 i ∧ s = numS 76 (Re.numsRL (re.kids.take i) A))
      ⟨_, _, _, Cln.refl, 0, rfl, by omega, ?_, rfl, rfl, rfl, rfl, rfl, ?_⟩ ?_ <;> (try simp only [keepE_app, List.contains_cons, List.contains_nil, Nat.reduceBEq, Bool.or_false, Bool.false_or, Bool.or_true, Bool.true_or, updE, trimE_upd, trimE_trim, trimE_app, Nat.reduceShiftRight, Nat.reduceMod, Nat.reduceEqDiff, if_true, if_false, reduceIte])
    · simp [reEl, Re.cells_eq re, iD, bD, hop]; rfl
    · simp [Re.numsRL, hA, numS, cell3N, iD, mapE, seenL]
      try exact List.take_of_length_le (by simp)
    clear hG hM hA
    rintro n e s ⟨i, rfl, hi, h0, h1, h2, h3, h36, h37, rfl⟩
    rcases Nat.lt_or_ge i re.kids.length with hlt | hge
    · obtain ⟨k, hk⟩ : ∃ k, re.kids[i]? = some k := ⟨_, List.getElem?_eq_getElem hlt⟩
      have hm := List.mem_of_getElem? hk
      have hal := Re.numsRL_len (l := re.kids.take i) (fun x _ => x.numsR_len) A
      have htl := Re.sizeL_take re.kids (i + 1)
      rw [take_get hk, Re.sizeL_append] at htl
      simp only [Re.sizeL] at htl
      have hrec := ih k hm (hfk k hm) (Re.numsRL (re.kids.take i) A) (by omega)
      rw [← Re.numsRL_snoc, ← take_get hk] at hrec
      unfold numS cell3N at hrec
      unfold numS cell3N
      simp only [vsL, vsB, vsC, appendWp, Nat.reduceShiftRight, Nat.reduceMod, Nat.reduceLT, Nat.reduceMul, Nat.reduceSub, Int.reduceToNat, Int.reduceNeg, Int.reduceLT, Int.reduceLE, Int.reduceEq, Nat.reduceEqDiff, Nat.reduceAdd, Nat.reduceLeDiff, reduceIte, reduceCtorEq, Nat.reduceBEq, tysA, i64, h0, h1, h2, h3, h36, h37, hlt]
      refine draw_c mix [] [(0, [2], []), (7, [0, 1, 2, 3, 4], [0, 1, 2, 3, 4])] (by rfl) ?_
      simp only [vsL, vsB, vsC, appendWp, Nat.reduceShiftRight, Nat.reduceMod, Nat.reduceLT, Nat.reduceMul, Nat.reduceSub, Int.reduceToNat, Int.reduceNeg, Int.reduceLT, Int.reduceLE, Int.reduceEq, Nat.reduceEqDiff, Nat.reduceAdd, Nat.reduceLeDiff, reduceIte, reduceCtorEq, Nat.reduceBEq, tysA, i64, h0, h1, h2, h3, h36, h37, hlt, hk, reEl, Re.cells_eq re, iD, bD]
      simp only [i64, iD] at hrec
      refine callF_whole hrec (by intro j hj; simp only [List.length_cons, List.length_nil] at hj; simp only [List.mem_cons, List.not_mem_nil, or_false]; omega) rfl rfl ?_
      simp only [vsL, vsB, vsC, appendWp, Nat.reduceShiftRight, Nat.reduceMod, Nat.reduceLT, Nat.reduceMul, Nat.reduceSub, Int.reduceToNat, Int.reduceNeg, Int.reduceLT, Int.reduceLE, Int.reduceEq, Nat.reduceEqDiff, Nat.reduceAdd, Nat.reduceLeDiff, reduceIte, reduceCtorEq, Nat.reduceBEq, tysA, i64, h0, h1, h2, h3, h36, h37]
      refine ⟨re.kids.length - (i + 1), _, _, by omega, Cln.refl, i + 1, rfl, hlt, ?_, ?_, ?_, ?_, ?_, ?_, rfl⟩ <;> (try simp only [keepE_app, List.contains_cons, List.contains_nil, Nat.reduceBEq, Bool.or_false, Bool.false_or, Bool.or_true, Bool.true_or, updE, trimE_upd, trimE_trim, trimE_app, Nat.reduceShiftRight, Nat.reduceMod, Nat.reduceEqDiff, if_true, if_false, reduceIte])
      · simpa [reEl, Re.cells_eq re, iD, bD] using h0
      · exact h1
      · exact h2
      · exact h3
      · exact h36
      · rw [w64 _ (by omega)]; rfl
    · have hie : i = re.kids.length := by omega
      subst hie
      rw [List.take_length]
      unfold numS cell3N
      simp only [vsL, vsB, vsC, appendWp, Nat.reduceShiftRight, Nat.reduceMod, Nat.reduceLT, Nat.reduceMul, Nat.reduceSub, Int.reduceToNat, Int.reduceNeg, Int.reduceLT, Int.reduceLE, Int.reduceEq, Nat.reduceEqDiff, Nat.reduceAdd, Nat.reduceLeDiff, reduceIte, reduceCtorEq, Nat.reduceBEq, tysA, i64, h0, h1, h2, h3, h36, h37, Nat.lt_irrefl]
      simp [objOk, refsV, refsV.go]
      exact ⟨mapE_refs _ _ _, fun _ _ => rfl⟩

theorem Re.addAll_nil (re : Re) : addAll [] re.numsR = re.numsR := by
  rw [Re.numsR_eq, ← Re.numsRL_add]
  congr 1
  split <;> simp [addAll]

theorem numbers_ok (re : Re) (hs : re.fine = true) (hz : re.size ≤ 1000000) : PureOK Try.prog 37 [reV re] (.d (intsD re.numsR)) := by
  have hrec := numbers_rec re hs [] (by simpa using hz)
  rw [Re.addAll_nil] at hrec
  unfold numS cell3N at hrec
  rw [reEl, Re.cells_eq re] at hrec
  simp only [iD, bD, List.length_nil, List.map_nil, seenL, mapE] at hrec
  generalize re.numsR = ns at *
  have hcm : ∀ id g, cellsV (.mp id g) = some [.mp id g] := fun _ _ => rfl
  refine fn_ok Try.func37 rfl Try.ntmps37 Try.results37 rfl 0 63 (by simp) (by simp) ?_
  simp only [vsL, vsB, vsC, appendWp, Nat.reduceShiftRight, Nat.reduceMod, Nat.reduceLT, Nat.reduceMul, Nat.reduceSub, Int.reduceToNat, Int.reduceNeg, Int.reduceLT, Int.reduceLE, Int.reduceEq, Nat.reduceEqDiff, Nat.reduceAdd, Nat.reduceLeDiff, reduceIte, reduceCtorEq, Nat.reduceBEq, tysA, i64, reV_eq re, iD, bD, hcm]
  refine call_give [0] rfl ?_
  refine call_reserve (pre := []) (post := []) 1 1 rfl rfl rfl ?_
  refine call_map [3, 1, 4, 2, 5] hrec (by decide) rfl ?_ rfl (by simp [refsV, refsV.go]) ?_ rfl ?_
  · simp [killO, kill1, renO, renV, renV.go]; done
  · simp [objOk, refsV, refsV.go]; done
  have hrn : (List.map (fun x => [V.d (D.sc (Value.int IntKind.i64 x))]) ns).map (renV.go [3, 1, 4, 2, 5]) = List.map (fun x => [V.d (D.sc (Value.int IntKind.i64 x))]) ns := by rw [List.map_map]; rfl
  simp only [killO, kill1, putObjs, List.map_cons, List.map_nil, List.getElem?_cons_zero, List.set_cons_zero, List.set_cons_succ, renO, renV, renV.go, hrn, List.getD_cons_zero, List.getD_cons_succ]
  simp only [vsL, vsB, vsC, appendWp, Nat.reduceShiftRight, Nat.reduceMod, Nat.reduceLT, Nat.reduceMul, Nat.reduceSub, Int.reduceToNat, Int.reduceNeg, Int.reduceLT, Int.reduceLE, Int.reduceEq, Nat.reduceEqDiff, Nat.reduceAdd, Nat.reduceLeDiff, reduceIte, reduceCtorEq, Nat.reduceBEq, tysA, i64, iD, bD, List.map_cons, List.map_nil]
  have hel : List.map (fun x => [V.d (D.sc (Value.int IntKind.i64 x))]) ns = (ns.map fun x => [D.sc (Value.int .i64 x)]).map fun c => c.map V.d := by rw [List.map_map]; rfl
  have htk : List.take ns.length (List.map (fun x => [V.d (D.sc (Value.int IntKind.i64 x))]) ns) = (ns.map fun x => [D.sc (Value.int .i64 x)]).map fun c => c.map V.d := by
    rw [List.take_of_length_le (by simp), hel]
  rw [if_pos (by omega), htk, mapM_data _ (fun x => rfl)]
  rfl

end Go.Proofs.Ytafbdphblilenaa
