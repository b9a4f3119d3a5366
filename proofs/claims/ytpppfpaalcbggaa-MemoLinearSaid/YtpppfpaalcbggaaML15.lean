/- A part of the proof (F19 F20 F21 F23 F24 F25). -/
import Derived.Test.YtpppfpaalcbggaaML14
set_option linter.unusedSimpArgs false
set_option linter.unusedVariables false
set_option maxRecDepth 100000
set_option maxHeartbeats 80000000
set_option linter.unusedSimpArgs false
set_option linter.unusedVariables false
namespace Go.Proofs.Ytpppfpaalcbggaa
open Go.VL Go.Proofs.Try
end Go.Proofs.Ytpppfpaalcbggaa
namespace Go.Proofs.Ytpppfpaalcbggaa
open Go.VL Go.Proofs.Try
mutual
def Re.every (p:Re→Bool):Re→Bool
 | .mk op set kids mn mx mode n neg=>p (.mk op set kids mn mx mode n neg)&&Re.everyL p kids
def Re.everyL (p:Re→Bool):List Re→Bool
 | []=>true
 | k::l=>Re.every p k&&Re.everyL p l
end
theorem Re.everyL_all (p:Re→Bool):∀l:List Re,Re.everyL p l=l.all (Re.every p)
 | []=>rfl
 | k::l=>by simp [Re.everyL,Re.everyL_all p l]
theorem Re.every_iff {p:Re→Bool} (re:Re):re.every p=true ↔ p re=true∧∀k∈re.kids,k.every p=true:=by
 cases re with
 | mk op set kids mn mx mode n neg=>simp only[Re.every,Bool.and_eq_true,Re.everyL_all,List.all_eq_true,Re.kids]
end Go.Proofs.Ytpppfpaalcbggaa
namespace Go.Proofs.Ytpppfpaalcbggaa
open Go.VL Go.Proofs.Try
structure LR (nul:Bool) (p:Int × Int):Prop where
 a0:0≤p.1
 a1:p.1≤1000000
 b0:-1≤p.2
 b1:p.2≤1000000
 ab:p.2=-1∨p.1≤p.2
 nl:nul=true ↔ p.1=0
end Go.Proofs.Ytpppfpaalcbggaa
