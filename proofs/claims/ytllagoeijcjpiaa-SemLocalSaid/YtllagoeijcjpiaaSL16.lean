/- A part of the proof (F37 F38 F39 F40). -/
import Derived.Test.YtllagoeijcjpiaaSL2
import Derived.Test.YtllagoeijcjpiaaSL3
import Derived.Test.YtllagoeijcjpiaaSL15
set_option linter.unusedSimpArgs false
set_option linter.unusedVariables false
set_option maxRecDepth 100000
set_option maxHeartbeats 80000000
set_option linter.unusedSimpArgs false
set_option linter.unusedVariables false
namespace Go.Proofs.Ytllagoeijcjpiaa
open Go.VL Go.Proofs.Try
end Go.Proofs.Ytllagoeijcjpiaa
namespace Go.Proofs.Ytllagoeijcjpiaa
open Go.VL Go.Proofs.Try
instance (n:Int):Decidable (I64 n):=by unfold I64; infer_instance
def smallB (c:Nat) (r:Re):Bool:=decide (r.set.length≤c∧r.kids.length≤c∧I64 r.op∧I64 r.mn∧I64 r.mx∧I64 r.mode∧I64 r.n)&&r.set.all fun s=>decide (I64 s.1∧I64 s.2)
structure Pat.small (p:Pat) (c:Nat):Prop where
 ev:p.re.every (smallB c)=true
 sz:p.re.size≤c
 caps:I64 p.caps
theorem smallB_iff {c:Nat} {r:Re}:smallB c r=true ↔ (r.set.length≤c∧r.kids.length≤c∧I64 r.op∧I64 r.mn∧I64 r.mx∧I64 r.mode∧I64 r.n)∧∀s∈r.set,I64 s.1∧I64 s.2:=by
 unfold smallB
 rw[Bool.and_eq_true,decide_eq_true_eq,List.all_eq_true]
 exact and_congr Iff.rfl ⟨fun h s hs=>of_decide_eq_true (h s hs),fun h s hs=>decide_eq_true (h s hs)⟩
theorem every_mono' {p q:Re→Bool} (h:∀re,p re=true→q re=true) (re:Re) (hp:re.every p=true):re.every q=true:=by
 revert hp
 refine Re.ind (Q:=fun re=>re.every p=true→re.every q=true) (fun re ih hp=>?_) re
 obtain⟨h1,h2⟩:=(Re.every_iff re).1 hp
 exact(Re.every_iff re).2 ⟨h re h1,fun k hk=>ih k hk (h2 k hk)⟩
theorem small_fine {c:Nat} (hc:c≤1000000000) (re:Re) (h:re.every (smallB c)=true):re.fine=true:=by
 revert h
 refine Re.ind (Q:=fun re=>re.every (smallB c)=true→re.fine=true) (fun re ih h=>?_) re
 obtain⟨h1,h2⟩:=(Re.every_iff re).1 h
 obtain⟨⟨a1,a2,_⟩,_⟩:=smallB_iff.1 h1
 exact(Re.fine_iff re).2 ⟨by omega,by omega,fun k hk=>ih k hk (h2 k hk)⟩
end Go.Proofs.Ytllagoeijcjpiaa
