/- A part of the proof (F11 F12 F36). -/
import Derived.Test.YtpppfpaalcbggaaML15
import Derived.Test.YtpppfpaalcbggaaML16
set_option linter.unusedSimpArgs false
set_option linter.unusedVariables false
set_option maxRecDepth 100000
set_option maxHeartbeats 80000000
set_option linter.unusedSimpArgs false
set_option linter.unusedVariables false
namespace Go.Proofs.Ytpppfpaalcbggaa
open Go.VL Go.Proofs.Try
structure Pat where
 re:Re
 caps:Int
 runes:Bool
def patV (p:Pat):V:=.ag (p.re.cells.map .d++[i64 p.caps,bV p.runes])
def Re.whole (re:Re) (caps top:Int):Bool:=re.every fun r=>nodeOk r caps top
def topR (runes:Bool):Int:=if runes=true then 1114111 else 255
def validR (p:Pat):Int :=
 if 256 < p.re.size∨24 < p.re.depth then 4 else if p.caps < 0∨9 < p.caps∨p.re.whole p.caps (topR p.runes)=false then 1 else 0
end Go.Proofs.Ytpppfpaalcbggaa
