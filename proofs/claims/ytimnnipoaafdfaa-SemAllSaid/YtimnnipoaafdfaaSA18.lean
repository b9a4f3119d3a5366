/- A part of the proof (F26). -/
import Derived.Test.YtimnnipoaafdfaaSA8
import Derived.Test.YtimnnipoaafdfaaSA5
set_option linter.unusedSimpArgs false
set_option linter.unusedVariables false
set_option maxRecDepth 100000
set_option maxHeartbeats 80000000
set_option linter.unusedSimpArgs false
set_option linter.unusedVariables false
namespace Go.Proofs.Ytimnnipoaafdfaa
open Go.VL Go.Proofs.Try
theorem around_range (n m : Int) (hm : 1 ≤ m) (hn : I64 n) : 0 ≤ around n m ∧ around n m < m := by
 unfold I64 at hn
 unfold around
 split
 ·exact ⟨Int.tmod_nonneg _ (by omega), Int.tmod_lt_of_pos _ (by omega)⟩
 ·exact ⟨Int.tmod_nonneg _ (by omega), Int.tmod_lt_of_pos _ (by omega)⟩
end Go.Proofs.Ytimnnipoaafdfaa
