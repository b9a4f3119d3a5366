/- A part of the proof (K0). -/
import Derived.Test.YtimnnipoaafdfaaSD2
import Derived.Test.YtimnnipoaafdfaaSD3
set_option linter.unusedSimpArgs false
set_option linter.unusedVariables false
set_option maxRecDepth 100000
set_option maxHeartbeats 80000000
namespace Go.Proofs.Ytimnnipoaafdfaa
open Go.VL Go.Proofs.Try
theorem frz_ownK {lim id g lo n sz : Nat} {live : Bool} {s : List VL.Obj} {els : List (List V)} {ds : List (List D)} (ho : s[id]?=some ⟨g,live,sz,els⟩) (he : (els.drop lo).take n=ds.map (fun c=>c.map V.d)) (hn : lo + n≤els.length) (hl : lim≤id ∨ live=false) :
  frzV lim s (.so id g lo n)=some (.d (.sl ds)) := by
 simp only [frzV,frzD,ho,true_and]
 rw [if_pos ⟨hn,hl⟩,he,mapM_frzE]
 rfl
end Go.Proofs.Ytimnnipoaafdfaa
