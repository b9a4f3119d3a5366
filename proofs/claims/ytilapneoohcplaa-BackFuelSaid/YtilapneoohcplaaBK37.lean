/- Part of the proof: the program logic, or what some functions compute (F41 F32 F33). -/
import Derived.Test.YtilapneoohcplaaBK3
import Derived.Test.YtilapneoohcplaaBK5
set_option linter.unusedSimpArgs false
set_option linter.unusedVariables false
set_option maxRecDepth 100000
set_option maxHeartbeats 80000000
set_option linter.unusedSimpArgs false
set_option linter.unusedVariables false
namespace Go.Proofs.Ytilapneoohcplaa
open Go.VL
end Go.Proofs.Ytilapneoohcplaa
namespace Go.Proofs.Ytilapneoohcplaa
open Go.VL
end Go.Proofs.Ytilapneoohcplaa
