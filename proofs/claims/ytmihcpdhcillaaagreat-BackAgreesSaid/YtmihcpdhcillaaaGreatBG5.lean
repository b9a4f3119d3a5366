/- A part of the proof (F19 F20 F21 F23 F24 F25). -/
import Derived.Test.YtmihcpdhcillaaaGreatBG3
import Derived.Test.YtmihcpdhcillaaaGreatBG4
set_option linter.unusedSimpArgs false
set_option linter.unusedVariables false
set_option maxRecDepth 100000
set_option maxHeartbeats 80000000
set_option linter.unusedSimpArgs false
set_option linter.unusedVariables false
namespace Go.Proofs.YtmihcpdhcillaaaGreat
open Go.VL Go.Proofs.Tryz
end Go.Proofs.YtmihcpdhcillaaaGreat
namespace Go.Proofs.YtmihcpdhcillaaaGreat
open Go.VL Go.Proofs.Tryz
mutual
def Re.every (p:Re→Bool):Re→Bool
 |.mk op set kids mn mx mode n neg=>p (.mk op set kids mn mx mode n neg)&&Re.Bw p kids
def Re.Bw (p:Re→Bool):List Re→Bool
 |[]=>true
 |k::l=>Re.every p k&&Re.Bw p l
end
theorem Re.xH (p:Re→Bool):∀l:List Re,Re.Bw p l=l.all (Re.every p)
 |[]=>rfl
 |k::l=>by simp [Re.Bw,Re.xH p l]
theorem Re.ck {p:Re→Bool} (re:Re):re.every p=true ↔ p re=true∧∀k∈re.kids,k.every p=true:=by
 cases re with
 |mk op set kids mn mx mode n neg=>simp only[Re.every,W7,Re.xH,Xn,Re.kids]
end Go.Proofs.YtmihcpdhcillaaaGreat
namespace Go.Proofs.YtmihcpdhcillaaaGreat
open Go.VL Go.Proofs.Tryz
structure LR (vl:Bool) (p:Int×Int):Prop where
 a0:0≤p.1
 a1:p.1≤1000000
 b0:-1≤p.2
 b1:p.2≤1000000
 ab:p.2=-1∨p.1≤p.2
 nl:vl=true ↔ p.1=0
end Go.Proofs.YtmihcpdhcillaaaGreat
