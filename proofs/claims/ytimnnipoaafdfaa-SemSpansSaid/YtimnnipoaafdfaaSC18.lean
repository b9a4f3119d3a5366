/- A part of the proof (F26). -/
import Derived.Test.YtimnnipoaafdfaaSC8
import Derived.Test.YtimnnipoaafdfaaSC5
set_option linter.unusedSimpArgs false
set_option linter.unusedVariables false
set_option maxRecDepth 100000
set_option maxHeartbeats 80000000
set_option linter.unusedSimpArgs false
set_option linter.unusedVariables false
namespace Go.Proofs.Ytimnnipoaafdfaa
open Go.VL Go.Proofs.Try
theorem every_mk {p : Re → Bool} {op mn mx mode n : Int} {set : List (Int × Int)} {kids : List Re} {neg : Bool} (h : p (.mk op set kids mn mx mode n neg) = true) (hk : ∀ k ∈ kids, k.every p = true) : (Re.mk op set kids mn mx mode n neg).every p = true :=
 (Re.every_iff _).2 ⟨h, hk⟩
theorem set_gen (m : Mk) : m.set.1.every genB = true := by
 have hl : ∀ i : Nat, ((setSpans[i]?).getD []).length ≤ 10 := by
  intro i
  by_cases hi : i < 8
  ·have : ∀ i, i < 8 → ((setSpans[i]?).getD []).length ≤ 10 := by decide
   exact this i hi
  ·rw [List.getElem?_eq_none (by simp [setSpans]; omega)]; simp
 refine every_mk (decide_eq_true ?_) (fun k hk => by cases hk)
 refine ⟨hl _, by simp [Re.kids], ?_, ?_, ?_, ?_⟩ <;> simp [Re.op]
theorem kidsFrom_gen {t : Mk → Re × Mk} (ht : ∀ m, (t m).1.every genB = true) : ∀ (f : Nat) (i : Int) (m : Mk), (∀ k ∈ (kidsFrom t f i m).1, k.every genB = true) ∧ (kidsFrom t f i m).1.length ≤ f
 | 0, i, m => by simp [kidsFrom]
 | f + 1, i, m => by
  simp only [kidsFrom]
  split
  ·obtain ⟨h1, h2⟩ := kidsFrom_gen ht f (i + 1) (t (m.next 2).2).2
   refine ⟨fun k hk => ?_, by simp; omega⟩
   rcases List.mem_cons.1 hk with rfl | hk
   ·exact ht _
   ·exact h1 k hk
  ·simp
theorem kidsFrom_ne {t : Mk → Re × Mk} (m : Mk) : (kidsFrom t 4 0 m).1 ≠ [] := by
 have hp := pick_range m.l m.pos 2 (by omega)
 rw [kidsFrom, if_pos (by simp only [Mk.next]; omega)]
 simp
theorem one_gen {op mn mx mode n : Int} {neg : Bool} {k : Re} (hk : k.every genB = true) (h0 : 0 ≤ op) (h1 : op ≤ 11) (h4 : op = 4 → 0 ≤ mn ∧ mn ≤ 2 ∧ (mx = -1 ∨ (1 ≤ mx ∧ mx ≤ 3 ∧ mn ≤ mx))) : (Re.mk op [] [k] mn mx mode n neg).every genB = true := by
 refine every_mk (decide_eq_true ⟨by simp [Re.set], by simp [Re.kids], h0, h1, fun h => ⟨rfl, h4 h⟩, fun _ => by simp [Re.kids]⟩) (fun y hy => ?_)
 rw [List.mem_singleton.1 hy]; exact hk
theorem nil_gen {op mn mx mode n : Int} {neg : Bool} (h0 : 0 ≤ op) (h1 : op ≤ 11) (h : op ≠ 4 ∧ op ≠ 3 ∧ op ≠ 10 ∧ op ≠ 5 ∧ op ≠ 9) : (Re.mk op [] [] mn mx mode n neg).every genB = true := by
 refine every_mk (decide_eq_true ⟨by simp [Re.set], by simp [Re.kids], h0, h1, fun h' => absurd h' h.1, fun h' => ?_⟩) (fun y hy => by cases hy)
 obtain ⟨_, a, b, c, d⟩ := h
 simp only [Re.op] at h'
 rcases h' with h' | h' | h' | h'
 ·exact absurd h' a
 ·exact absurd h' b
 ·exact absurd h' c
 ·exact absurd h' d
theorem repKid_gen {t : Mk → Re × Mk} (ht : ∀ m, (t m).1.every genB = true) (m : Mk) : (repKid t m).1.every genB = true := by
 unfold repKid
 simp only
 split
 ·exact set_gen _
 ·exact ht _
theorem rep_gen {t : Mk → Re × Mk} (ht : ∀ m, (t m).1.every genB = true) (m : Mk) : (m.rep t).1.every genB = true := by
 simp only [Mk.rep]
 have hk := pick_range m.l m.pos 12 (by omega)
 refine one_gen (repKid_gen ht _) (by omega) (by omega) (fun _ => ?_)
 have key : ∀ i : Nat, i < 12 → 0 ≤ (repMins[i]?).getD 0 ∧ (repMins[i]?).getD 0 ≤ 2 ∧ ((repMaxs[i]?).getD 0 = -1 ∨ (1 ≤ (repMaxs[i]?).getD 0 ∧ (repMaxs[i]?).getD 0 ≤ 3 ∧ (repMins[i]?).getD 0 ≤ (repMaxs[i]?).getD 0)) := by decide
 exact key (pick m.l m.pos 12).toNat (by omega)
theorem node_gen {t : Mk → Re × Mk} (ht : ∀ m, (t m).1.every genB = true) (k : Int) (m : Mk) : (Mk.node t k m).1.every genB = true := by
 obtain ⟨k1, k2⟩ := kidsFrom_gen ht 4 0 m
 have kn := kidsFrom_ne (t := t) m
 have kids : ∀ op : Int, (op = 2 ∨ op = 3) → (Re.node op (kidsFrom t 4 0 m).1).every genB = true := fun op h =>
  every_mk (decide_eq_true ⟨by simp [Re.set], k2, by simp only [Re.op]; omega, by simp only [Re.op]; omega, fun h' => by simp only [Re.op] at h'; omega, fun _ => kn⟩) k1
 unfold Mk.node
 split
 ·exact kids 2 (.inl rfl)
 split
 ·exact kids 3 (.inr rfl)
 split
 ·exact rep_gen ht m
 split
 ·exact one_gen (ht _) (by omega) (by omega) (fun h => by omega)
 split
 ·exact one_gen (ht _) (by omega) (by omega) (fun h => by omega)
 split
 ·exact nil_gen (by omega) (by omega) (by decide)
 split
 ·have hp := pick_range (m.next 3).2.l (m.next 3).2.pos 2 (by omega)
  refine one_gen (ht _) ?_ ?_ (fun h => ?_) <;> simp only [Mk.next] at * <;> omega
 split
 ·exact one_gen (ht _) (by omega) (by omega) (fun h => by omega)
 split
 ·exact nil_gen (by omega) (by omega) (by decide)
 split
 ·refine every_mk (decide_eq_true ⟨by simp [Re.set], by simp [Re.kids], by simp [Re.op], by simp [Re.op], fun h => by simp [Re.op] at h, fun _ => by simp [Re.kids]⟩) (fun y hy => ?_)
  rcases List.mem_cons.1 hy with rfl | hy
  ·exact ht _
  ·rw [List.mem_singleton.1 hy]; exact ht _
 ·exact set_gen m
theorem tree_gen : ∀ (d : Nat) (m : Mk), (Mk.tree d m).1.every genB = true
 | 0, m => by
  simp only [Mk.tree]
  split
  ·exact nil_gen (by omega) (by omega) (by decide)
  ·exact set_gen _
 | d + 1, m => by
  simp only [Mk.tree]
  split
  ·split
   ·exact nil_gen (by omega) (by omega) (by decide)
   ·exact set_gen _
  ·exact node_gen (tree_gen d) _ _
theorem pat_gen (l : List Int) (uses most : Int) : (patOf l uses most).re.every genB = true := tree_gen 5 _
theorem around_range (n m : Int) (hm : 1 ≤ m) (hn : I64 n) : 0 ≤ around n m ∧ around n m < m := by
 unfold I64 at hn
 unfold around
 split
 ·exact ⟨Int.tmod_nonneg _ (by omega), Int.tmod_lt_of_pos _ (by omega)⟩
 ·exact ⟨Int.tmod_nonneg _ (by omega), Int.tmod_lt_of_pos _ (by omega)⟩
end Go.Proofs.Ytimnnipoaafdfaa
