/- A part of the proof (F41 F32 F33 F43 F44). -/
import Derived.Test.YtllagoeijcjpiaaSL3
import Derived.Test.YtllagoeijcjpiaaSL5
import Derived.Test.YtllagoeijcjpiaaSL16
import Derived.Test.YtllagoeijcjpiaaSL17
set_option linter.unusedSimpArgs false
set_option linter.unusedVariables false
set_option maxRecDepth 100000
set_option maxHeartbeats 80000000
set_option linter.unusedSimpArgs false
set_option linter.unusedVariables false
namespace Go.Proofs.Ytllagoeijcjpiaa
open Go.VL Go.Proofs.Try
end Go.Proofs.Ytllagoeijcjpiaa
namespace Go.Proofs.Ytllagoeijcjpiaa
open Go.VL Go.Proofs.Try
end Go.Proofs.Ytllagoeijcjpiaa
namespace Go.Proofs.Ytllagoeijcjpiaa
open Go.VL Go.Proofs.Try
def patC (p:Pat):List D:=p.re.cells++[iD p.caps,bD p.runes]
theorem patV_C (p:Pat):patV p=.ag ((patC p).map .d):=by
 unfold patV patC; rw[List.map_append]; rfl
theorem patC_eq (p:Pat):patC p=[iD p.re.op,.sl (p.re.set.map spanC),.sl (p.re.kids.map Re.cells),iD p.re.mn,iD p.re.mx,iD p.re.mode,iD p.re.n,bD p.re.neg,iD p.caps,bD p.runes]:=by
 unfold patC; rw[Re.cells_eq]; rfl
end Go.Proofs.Ytllagoeijcjpiaa
