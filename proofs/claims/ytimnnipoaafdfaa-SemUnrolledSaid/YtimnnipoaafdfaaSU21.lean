/- A part of the proof (F51 F52 F61). -/
import Derived.Test.YtimnnipoaafdfaaSU2
import Derived.Test.YtimnnipoaafdfaaSU5
set_option linter.unusedSimpArgs false
set_option linter.unusedVariables false
set_option maxRecDepth 100000
set_option maxHeartbeats 80000000
set_option linter.unusedSimpArgs false
set_option linter.unusedVariables false
namespace Go.Proofs.Ytimnnipoaafdfaa
open Go.VL Go.Proofs.Try
end Go.Proofs.Ytimnnipoaafdfaa
namespace Go.Proofs.Ytimnnipoaafdfaa
open Go.VL Go.Proofs.Try
end Go.Proofs.Ytimnnipoaafdfaa
