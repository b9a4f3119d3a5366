/- A part of the proof (F44 F51 F52 F61 G20). -/
import Derived.Test.YtpppfpaalcbggaaML28
set_option linter.unusedSimpArgs false
set_option linter.unusedVariables false
set_option maxRecDepth 100000
set_option maxHeartbeats 80000000
set_option linter.unusedSimpArgs false
set_option linter.unusedVariables false
namespace Go.Proofs.Ytpppfpaalcbggaa
open Go.VL Go.Proofs.Try
def patC (p:Pat):List D:=p.re.cells++[iD p.caps,bD p.runes]
theorem patC_eq (p:Pat):patC p=[iD p.re.op,.sl (p.re.set.map spanC),.sl (p.re.kids.map Re.cells),iD p.re.mn,iD p.re.mx,iD p.re.mode,iD p.re.n,bD p.re.neg,iD p.caps,bD p.runes]:=by
 unfold patC; rw[Re.cells_eq]; rfl
end Go.Proofs.Ytpppfpaalcbggaa
namespace Go.Proofs.Ytpppfpaalcbggaa
open Go.VL Go.Proofs.Try
end Go.Proofs.Ytpppfpaalcbggaa
namespace Go.Proofs.Ytpppfpaalcbggaa
open Go.VL Go.Proofs.Try
structure Mat where
 s:Int
 e:Int
 c:CapsL
deriving DecidableEq
end Go.Proofs.Ytpppfpaalcbggaa
