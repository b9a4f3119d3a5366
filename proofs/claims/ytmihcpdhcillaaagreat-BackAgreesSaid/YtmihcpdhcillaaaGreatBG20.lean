/- A part of the proof (F51 F52 F61). -/
import Derived.Test.YtmihcpdhcillaaaGreatBG2
import Derived.Test.YtmihcpdhcillaaaGreatBG5
set_option linter.unusedSimpArgs false
set_option linter.unusedVariables false
set_option maxRecDepth 100000
set_option maxHeartbeats 80000000
set_option linter.unusedSimpArgs false
set_option linter.unusedVariables false
namespace Go.Proofs.YtmihcpdhcillaaaGreat
open Go.VL Go.Proofs.Tryz
end Go.Proofs.YtmihcpdhcillaaaGreat
namespace Go.Proofs.YtmihcpdhcillaaaGreat
open Go.VL Go.Proofs.Tryz
end Go.Proofs.YtmihcpdhcillaaaGreat
