/- A part of the proof (F35). -/
import Derived.Test.YtffeafbdcakfbaaAQ11
set_option linter.unusedSimpArgs false
set_option linter.unusedVariables false
set_option maxRecDepth 100000
set_option maxHeartbeats 80000000
set_option linter.unusedSimpArgs false
set_option linter.unusedVariables false
namespace Go.Proofs.Ytffeafbdcakfbaa
open Go.VL Go.Proofs.Try
def nodeOk (re:Re) (caps top:Int):Bool :=
 decide (0≤re.op∧re.op≤11∧(kidsR re.op).1≤re.kids.length∧((kidsR re.op).2 < 0∨(re.kids.length:Int)≤(kidsR re.op).2)) &&
 ((if re.op=1 then spansR re.set top else decide (re.set.length=0)) &&
 ((if re.op=4 then decide (0≤re.mn∧re.mn≤32∧-1≤re.mx∧re.mx≠0∧re.mx≤32∧(0 < re.mx→re.mn≤re.mx)∧0≤re.mode∧re.mode≤2) else decide (re.mn=0∧re.mx=0∧re.mode=0)) &&
 ((if re.op=5∨re.op=6∨re.op=10 then decide (1≤re.n∧re.n≤caps) else if re.op=11 then decide (0≤re.n∧re.n≤5) else decide (re.n=0)) &&
 (!re.neg||decide (re.op=7∨re.op=8)))))
end Go.Proofs.Ytffeafbdcakfbaa
