/- A part of the proof (F60). -/
import Derived.Test.YtffeafbdcakfbaaAQ19
set_option linter.unusedSimpArgs false
set_option linter.unusedVariables false
set_option maxRecDepth 100000
set_option maxHeartbeats 80000000
set_option linter.unusedSimpArgs false
set_option linter.unusedVariables false
namespace Go.Proofs.Ytffeafbdcakfbaa
open Go.VL Go.Proofs.Try
theorem take_patC (p:Pat):((patC p).map V.d).take 10=(patC p).map V.d:=List.take_of_length_le (by simp [patC_len])
theorem take8_patC (p:Pat):((patC p).map V.d).take 8=p.re.cells.map V.d:=by
 unfold patC; rw[List.map_append]; exact List.take_left' (by simp [Re.cells_len])
end Go.Proofs.Ytffeafbdcakfbaa
