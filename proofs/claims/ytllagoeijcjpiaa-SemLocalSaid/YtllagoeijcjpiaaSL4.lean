/- A part of the proof (F17 F18 F14). -/
import Derived.Test.YtllagoeijcjpiaaSL3
set_option linter.unusedSimpArgs false
set_option linter.unusedVariables false
set_option maxRecDepth 100000
set_option maxHeartbeats 80000000
set_option linter.unusedSimpArgs false
set_option linter.unusedVariables false
namespace Go.Proofs.Ytllagoeijcjpiaa
open Go.VL Go.Proofs.Try
end Go.Proofs.Ytllagoeijcjpiaa
namespace Go.Proofs.Ytllagoeijcjpiaa
open Go.VL Go.Proofs.Try
end Go.Proofs.Ytllagoeijcjpiaa
