/- A part of the proof (F51 F52 F61 F41 F32 F33 F43 F44). -/
import Derived.Test.YtllagoeijcjpiaaBD2
import Derived.Test.YtllagoeijcjpiaaBD3
import Derived.Test.YtllagoeijcjpiaaBD4
import Derived.Test.YtllagoeijcjpiaaBD17
import Derived.Test.YtllagoeijcjpiaaBD16
set_option linter.unusedSimpArgs false
set_option linter.unusedVariables false
set_option maxRecDepth 100000
set_option maxHeartbeats 80000000
set_option linter.unusedSimpArgs false
set_option linter.unusedVariables false
namespace Go.Proofs.Ytllagoeijcjpiaa
open Go.VL Go.Proofs.Try
end Go.Proofs.Ytllagoeijcjpiaa
namespace Go.Proofs.Ytllagoeijcjpiaa
open Go.VL Go.Proofs.Try
end Go.Proofs.Ytllagoeijcjpiaa
namespace Go.Proofs.Ytllagoeijcjpiaa
open Go.VL Go.Proofs.Try
end Go.Proofs.Ytllagoeijcjpiaa
namespace Go.Proofs.Ytllagoeijcjpiaa
open Go.VL Go.Proofs.Try
def yZ (p:ic):List D:=p.re.cells++[iD p.ai,bD p.bG]
theorem gP (p:ic):yZ p=[iD p.re.op,.sl (p.re.set.map aM),.sl (p.re.kids.map Re.cells),iD p.re.mn,iD p.re.mx,iD p.re.mode,iD p.re.n,bD p.re.neg,iD p.ai,bD p.bG]:=by
 unfold yZ;rw[Re.ae];rfl
end Go.Proofs.Ytllagoeijcjpiaa
