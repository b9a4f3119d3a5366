/- A part of the proof (F119). -/
import Derived.Test.YtffeafbdcakfbaaAQ19
import Derived.Test.YtffeafbdcakfbaaAQ26
import Derived.Test.YtffeafbdcakfbaaAQ28
import Derived.Test.YtffeafbdcakfbaaAQ25
import Derived.Test.YtffeafbdcakfbaaAQ27
import Derived.Test.YtffeafbdcakfbaaAQ20
import Derived.Test.YtffeafbdcakfbaaAQ23
import Derived.Test.YtffeafbdcakfbaaAQ24
set_option linter.unusedSimpArgs false
set_option linter.unusedVariables false
set_option maxRecDepth 100000
set_option maxHeartbeats 80000000
set_option linter.unusedSimpArgs false
set_option linter.unusedVariables false
namespace Go.Proofs.Ytffeafbdcakfbaa
open Go.VL Go.Proofs.Try
theorem put_ok (re x:Re) (p:List Int) (hp:p.length≤5) (hf:re.fine=true) (hx:x.fine=true) (ho:okP re p):PutOK re x p:=by
 have:p.length=0∨p.length=1∨p.length=2∨p.length=3∨p.length=4∨p.length=5:=by omega
 rcases this with h | h | h | h | h | h
 ·exact put_ok0 re x p h hf hx ho
 ·exact put_ok1 re x p h hf hx ho
 ·exact put_ok2 re x p h hf hx ho
 ·exact put_ok3 re x p h hf hx ho
 ·exact put_ok4 re x p h hf hx ho
 ·exact put_ok5 re x p h hf hx ho
end Go.Proofs.Ytffeafbdcakfbaa
