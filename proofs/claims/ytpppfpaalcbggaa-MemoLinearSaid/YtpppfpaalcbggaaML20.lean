/- A part of the proof (F39 F40 F41). -/
import Derived.Test.YtpppfpaalcbggaaML19
set_option linter.unusedSimpArgs false
set_option linter.unusedVariables false
set_option maxRecDepth 100000
set_option maxHeartbeats 80000000
set_option linter.unusedSimpArgs false
set_option linter.unusedVariables false
namespace Go.Proofs.Ytpppfpaalcbggaa
open Go.VL Go.Proofs.Try
instance (n:Int):Decidable (I64 n):=by unfold I64; infer_instance
def smallB (c:Nat) (r:Re):Bool:=decide (r.set.length≤c∧r.kids.length≤c∧I64 r.op∧I64 r.mn∧I64 r.mx∧I64 r.mode∧I64 r.n)&&r.set.all fun s=>decide (I64 s.1∧I64 s.2)
structure Pat.small (p:Pat) (c:Nat):Prop where
 ev:p.re.every (smallB c)=true
 sz:p.re.size≤c
 caps:I64 p.caps
theorem around_in (n m:Int) (hm:1≤m) (hn:I64 n):0≤around n m∧around n m < m:=by
 unfold I64 at hn
 unfold around
 split
 ·exact⟨Int.tmod_nonneg _ (by omega),Int.tmod_lt_of_pos _ (by omega)⟩
 ·exact⟨Int.tmod_nonneg _ (by omega),Int.tmod_lt_of_pos _ (by omega)⟩
end Go.Proofs.Ytpppfpaalcbggaa
namespace Go.Proofs.Ytpppfpaalcbggaa
open Go.VL Go.Proofs.Try
end Go.Proofs.Ytpppfpaalcbggaa
