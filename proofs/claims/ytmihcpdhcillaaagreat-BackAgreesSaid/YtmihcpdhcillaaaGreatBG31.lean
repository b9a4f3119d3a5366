/- A part of the proof (F41 F32 F33 F43 F44). -/
import Derived.Test.YtmihcpdhcillaaaGreatBG3
import Derived.Test.YtmihcpdhcillaaaGreatBG5
import Derived.Test.YtmihcpdhcillaaaGreatBG18
import Derived.Test.YtmihcpdhcillaaaGreatBG17
set_option linter.unusedSimpArgs false
set_option linter.unusedVariables false
set_option maxRecDepth 100000
set_option maxHeartbeats 80000000
set_option linter.unusedSimpArgs false
set_option linter.unusedVariables false
namespace Go.Proofs.YtmihcpdhcillaaaGreat
open Go.VL Go.Proofs.Tryz
end Go.Proofs.YtmihcpdhcillaaaGreat
namespace Go.Proofs.YtmihcpdhcillaaaGreat
open Go.VL Go.Proofs.Tryz
end Go.Proofs.YtmihcpdhcillaaaGreat
namespace Go.Proofs.YtmihcpdhcillaaaGreat
open Go.VL Go.Proofs.Tryz
def jy (p:fj):List D:=p.re.cells++[iD p.ak,bD p.bk]
theorem gz (p:fj):jy p=[iD p.re.op,.sl (p.re.set.map aT),.sl (p.re.kids.map Re.cells),iD p.re.mn,iD p.re.mx,iD p.re.mode,iD p.re.n,bD p.re.neg,iD p.ak,bD p.bk]:=by
 unfold jy;rw[Re.ae];rfl
end Go.Proofs.YtmihcpdhcillaaaGreat
