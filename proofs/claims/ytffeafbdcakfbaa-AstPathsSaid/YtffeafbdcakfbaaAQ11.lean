/- A part of the proof (F34). -/
import Derived.Test.YtffeafbdcakfbaaAQ2
import Derived.Test.YtffeafbdcakfbaaAQ3
set_option linter.unusedSimpArgs false
set_option linter.unusedVariables false
set_option maxRecDepth 100000
set_option maxHeartbeats 80000000
set_option linter.unusedSimpArgs false
set_option linter.unusedVariables false
namespace Go.Proofs.Ytffeafbdcakfbaa
open Go.VL Go.Proofs.Try
def kidsR (op:Int):Int × Int :=
 if op=2∨op=3 then (2,-1) else if op=4∨op=5∨op=7∨op=8∨op=9 then (1,1) else if op=10 then (2,2) else (0,0)
def spOk (top:Int):Int→List (Int × Int)→Bool
 | _,[]=>true
 | p,s::l=>decide (0≤s.1∧s.1≤s.2∧s.2≤top∧p + 1 < s.1)&&spOk top s.2 l
def spansR (l:List (Int × Int)) (top:Int):Bool:=decide (l.length≤64)&&spOk top (-2) l
end Go.Proofs.Ytffeafbdcakfbaa
