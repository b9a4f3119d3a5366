/- A part of the proof (F17 F18 F14 F6 F7 F8 F9 F10). -/
import Derived.Test.YtpppfpaalcbggaaML3
set_option linter.unusedSimpArgs false
set_option linter.unusedVariables false
set_option maxRecDepth 100000
set_option maxHeartbeats 80000000
set_option linter.unusedSimpArgs false
set_option linter.unusedVariables false
namespace Go.Proofs.Ytpppfpaalcbggaa
open Go.VL Go.Proofs.Try
end Go.Proofs.Ytpppfpaalcbggaa
namespace Go.Proofs.Ytpppfpaalcbggaa
open Go.VL Go.Proofs.Try
structure Mk.In (m:Mk) (b:Int):Prop where
 l:∀x∈m.l,I64 x
 p0:0≤m.pos
 p1:m.pos≤b
 l0:-b≤m.left
 l1:m.left≤1000000
 c0:0≤m.caps
 c1:m.caps≤4
def Good (t:Mk→Re × Mk) (c z:Int):Prop:=∀m b,0≤b→Mk.In m b→(t m).2.In (b + c)∧((t m).1.size:Int)≤z
end Go.Proofs.Ytpppfpaalcbggaa
namespace Go.Proofs.Ytpppfpaalcbggaa
open Go.VL Go.Proofs.Try
end Go.Proofs.Ytpppfpaalcbggaa
namespace Go.Proofs.Ytpppfpaalcbggaa
open Go.VL Go.Proofs.Try
end Go.Proofs.Ytpppfpaalcbggaa
