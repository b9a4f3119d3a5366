/- A part of the proof (F26). -/
import Derived.Test.YtafbdphblilenaaAB10
import Derived.Test.YtafbdphblilenaaAB6
set_option linter.unusedSimpArgs false
set_option linter.unusedVariables false
set_option maxRecDepth 100000
set_option maxHeartbeats 80000000
set_option linter.unusedSimpArgs false
set_option linter.unusedVariables false
namespace Go.Proofs.Ytafbdphblilenaa
open Go.VL Go.Proofs.Try
end Go.Proofs.Ytafbdphblilenaa
