/- A part of the proof (S42 S43). -/
import Derived.Test.YtimnnipoaafdfaaSU42
set_option linter.unusedSimpArgs false
set_option linter.unusedVariables false
set_option maxRecDepth 100000
set_option maxHeartbeats 80000000
namespace Go.Proofs.Ytimnnipoaafdfaa
open Go.VL Go.Proofs.Try
end Go.Proofs.Ytimnnipoaafdfaa
