/- A part of the proof (F37 F38 F26 G4 G5 G6 G7 G8 G9 G10 G11 G12 G13 G14). -/
import Derived.Test.YtpppfpaalcbggaaML17
import Derived.Test.YtpppfpaalcbggaaML18
set_option linter.unusedSimpArgs false
set_option linter.unusedVariables false
set_option maxRecDepth 100000
set_option maxHeartbeats 80000000
set_option linter.unusedSimpArgs false
set_option linter.unusedVariables false
namespace Go.Proofs.Ytpppfpaalcbggaa
open Go.VL Go.Proofs.Try
end Go.Proofs.Ytpppfpaalcbggaa
namespace Go.Proofs.Ytpppfpaalcbggaa
open Go.VL Go.Proofs.Try
end Go.Proofs.Ytpppfpaalcbggaa
namespace Go.Proofs.Ytpppfpaalcbggaa
open Go.VL Go.Proofs.Try
theorem allD {α:Type} (l:List α) (f:α→D) (n:Nat):((l.map fun x=>[V.d (f x)]).all fun e=>e.all (refsV n))=true:=by
 rw[List.all_eq_true]
 intro e he
 obtain⟨x,_,rfl⟩:=List.mem_map.1 he
 rfl
end Go.Proofs.Ytpppfpaalcbggaa
namespace Go.Proofs.Ytpppfpaalcbggaa
open Go.VL Go.Proofs.Try
end Go.Proofs.Ytpppfpaalcbggaa
namespace Go.Proofs.Ytpppfpaalcbggaa
open Go.VL Go.Proofs.Try
end Go.Proofs.Ytpppfpaalcbggaa
namespace Go.Proofs.Ytpppfpaalcbggaa
open Go.VL Go.Proofs.Try
end Go.Proofs.Ytpppfpaalcbggaa
namespace Go.Proofs.Ytpppfpaalcbggaa
open Go.VL Go.Proofs.Try
theorem sameR_succ {t:List Int} {a i:Int} {j:Nat}:sameR t a i (j + 1)=(sameR t a i j&&(tAt t (a + j) == tAt t (i + j))):=by
 unfold sameR
 rw[List.range_succ,List.all_append]
 simp
end Go.Proofs.Ytpppfpaalcbggaa
