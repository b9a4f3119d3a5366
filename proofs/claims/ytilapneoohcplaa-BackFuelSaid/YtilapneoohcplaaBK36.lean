/- Part of the proof: the program logic, or what some functions compute (F40). -/
import Derived.Test.YtilapneoohcplaaBK16
set_option linter.unusedSimpArgs false
set_option linter.unusedVariables false
set_option maxRecDepth 100000
set_option maxHeartbeats 80000000
set_option linter.unusedSimpArgs false
set_option linter.unusedVariables false
namespace Go.Proofs.Ytilapneoohcplaa
open Go.VL
end Go.Proofs.Ytilapneoohcplaa
