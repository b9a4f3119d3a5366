/- A part of the proof (F44). -/
import Derived.Test.YtpppfpaalcbggaaMB24
import Derived.Test.YtpppfpaalcbggaaMB19
set_option linter.unusedSimpArgs false
set_option linter.unusedVariables false
set_option maxRecDepth 100000
set_option maxHeartbeats 80000000
set_option linter.unusedSimpArgs false
set_option linter.unusedVariables false
namespace Go.Proofs.Ytpppfpaalcbggaa
open Go.VL Go.Proofs.Try
def patC (p:Pat):List D:=p.re.cells++[iD p.caps,bD p.runes]
theorem patV_C (p:Pat):patV p=.ag ((patC p).map .d):=by
 unfold patV patC; rw[List.map_append]; rfl
theorem patC_eq (p:Pat):patC p=[iD p.re.op,.sl (p.re.set.map spanC),.sl (p.re.kids.map Re.cells),iD p.re.mn,iD p.re.mx,iD p.re.mode,iD p.re.n,bD p.re.neg,iD p.caps,bD p.runes]:=by
 unfold patC; rw[Re.cells_eq]; rfl
theorem small_every_le {c c':Nat} (h:c≤c') {p:Pat} (hp:p.small c):p.small c':=⟨every_mono' (smallB_mono h) _ hp.ev,Nat.le_trans hp.sz h,hp.caps⟩
theorem valid_val {p:Pat} (h:validR p=0):p.re.every valB=true:=by
 unfold validR at h
 split at h
 ·cases h
 ·split at h
  ·cases h
  ·rename_i hc
   refine val_whole (caps:=p.caps) (top:=topR p.runes) ?_
   cases hw:p.re.whole p.caps (topR p.runes)
   ·exact absurd (.inr (.inr hw)) hc
   ·rfl
end Go.Proofs.Ytpppfpaalcbggaa
