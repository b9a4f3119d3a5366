/- A part of the proof (F51 F52). -/
import Derived.Test.YtdofoappodmcoaaKS2
import Derived.Test.YtdofoappodmcoaaKS5
set_option linter.unusedSimpArgs false
set_option linter.unusedVariables false
set_option maxRecDepth 100000
set_option maxHeartbeats 80000000
set_option linter.unusedSimpArgs false
set_option linter.unusedVariables false
namespace Go.Proofs.Ytdofoappodmcoaa
open Go.VL Go.Proofs.Try
end Go.Proofs.Ytdofoappodmcoaa
