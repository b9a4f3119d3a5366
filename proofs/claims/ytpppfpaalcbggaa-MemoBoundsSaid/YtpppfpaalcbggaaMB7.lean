/- A part of the proof (F17 F18). -/
import Derived.Test.YtpppfpaalcbggaaMB3
set_option linter.unusedSimpArgs false
set_option linter.unusedVariables false
set_option maxRecDepth 100000
set_option maxHeartbeats 80000000
set_option linter.unusedSimpArgs false
set_option linter.unusedVariables false
namespace Go.Proofs.Ytpppfpaalcbggaa
open Go.VL Go.Proofs.Try
end Go.Proofs.Ytpppfpaalcbggaa
