/- A part of the proof (F34 F35). -/
import Derived.Test.YtpppfpaalcbggaaML3
set_option linter.unusedSimpArgs false
set_option linter.unusedVariables false
set_option maxRecDepth 100000
set_option maxHeartbeats 80000000
set_option linter.unusedSimpArgs false
set_option linter.unusedVariables false
namespace Go.Proofs.Ytpppfpaalcbggaa
open Go.VL Go.Proofs.Try
def kidsR (op:Int):Int × Int :=
 if op=2∨op=3 then (2,-1) else if op=4∨op=5∨op=7∨op=8∨op=9 then (1,1) else if op=10 then (2,2) else (0,0)
def spOk (top:Int):Int→List (Int × Int)→Bool
 | _,[]=>true
 | p,s::l=>decide (0≤s.1∧s.1≤s.2∧s.2≤top∧p + 1 < s.1)&&spOk top s.2 l
def spansR (l:List (Int × Int)) (top:Int):Bool:=decide (l.length≤64)&&spOk top (-2) l
def prevHi (l:List (Int × Int)):Nat→Int
 | 0=>-2
 | i + 1=>(l[i]?.map (·.2)).getD 0
def nodeOk (re:Re) (caps top:Int):Bool :=
 decide (0≤re.op∧re.op≤11∧(kidsR re.op).1≤re.kids.length∧((kidsR re.op).2 < 0∨(re.kids.length:Int)≤(kidsR re.op).2)) &&
 ((if re.op=1 then spansR re.set top else decide (re.set.length=0)) &&
 ((if re.op=4 then decide (0≤re.mn∧re.mn≤32∧-1≤re.mx∧re.mx≠0∧re.mx≤32∧(0 < re.mx→re.mn≤re.mx)∧0≤re.mode∧re.mode≤2) else decide (re.mn=0∧re.mx=0∧re.mode=0)) &&
 ((if re.op=5∨re.op=6∨re.op=10 then decide (1≤re.n∧re.n≤caps) else if re.op=11 then decide (0≤re.n∧re.n≤5) else decide (re.n=0)) &&
 (!re.neg||decide (re.op=7∨re.op=8)))))
end Go.Proofs.Ytpppfpaalcbggaa
