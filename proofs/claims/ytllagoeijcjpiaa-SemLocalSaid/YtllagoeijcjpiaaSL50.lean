/- A part of the proof (S42 S43). -/
import Derived.Test.YtllagoeijcjpiaaSL49
set_option linter.unusedSimpArgs false
set_option linter.unusedVariables false
set_option maxRecDepth 100000
set_option maxHeartbeats 80000000
namespace Go.Proofs.Ytllagoeijcjpiaa
open Go.VL Go.Proofs.Try
def matsL (i:Int) (L:List (Int × CapsL)):List Mat:=L.map fun x=>⟨i,x.1,x.2⟩
theorem matsL_D (i:Int) (L:List (Int × CapsL)):L.map (matchD i)=(matsL i L).map matD:=by unfold matsL; rw[List.map_map]; rfl
theorem allM_len {p:Pat} {t:List Int} {i n f:Int} (h:allE p t i n f=0):((allM p t i n f).length:Int)≤allN p t i n f + 1∧(allM p t i n f).length=(searchX p t i n f).2.ends.length:=by
 have h1:=ends_le h
 have h2:=searchX_caps h
 unfold allM
 rw[if_pos h,List.length_zip,h2]
 simp only[Nat.min_self]
 exact⟨h1,trivial⟩
end Go.Proofs.Ytllagoeijcjpiaa
