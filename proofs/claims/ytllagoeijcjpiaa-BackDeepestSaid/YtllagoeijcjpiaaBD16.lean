/- A part of the proof (F37 F38 F39 F40). -/
import Derived.Test.YtllagoeijcjpiaaBD2
import Derived.Test.YtllagoeijcjpiaaBD3
import Derived.Test.YtllagoeijcjpiaaBD15
set_option linter.unusedSimpArgs false
set_option linter.unusedVariables false
set_option maxRecDepth 100000
set_option maxHeartbeats 80000000
set_option linter.unusedSimpArgs false
set_option linter.unusedVariables false
namespace Go.Proofs.Ytllagoeijcjpiaa
open Go.VL Go.Proofs.Try
end Go.Proofs.Ytllagoeijcjpiaa
namespace Go.Proofs.Ytllagoeijcjpiaa
open Go.VL Go.Proofs.Try
instance (n:Int):Decidable (iV n):=by unfold iV;infer_instance
def rV (c:Nat) (r:Re):Bool:=decide (r.set.length≤c∧r.kids.length≤c∧iV r.op∧iV r.mn∧iV r.mx∧iV r.mode∧iV r.n)&&r.set.all fun s=>decide (iV s.1∧iV s.2)
structure ic.small (p:ic) (c:Nat):Prop where
 ev:p.re.every (rV c)=true
 sz:p.re.size≤c
 ai:iV p.ai
theorem x8 {c:Nat}{r:Re}:rV c r=true ↔ (r.set.length≤c∧r.kids.length≤c∧iV r.op∧iV r.mn∧iV r.mx∧iV r.mode∧iV r.n)∧∀s∈r.set,iV s.1∧iV s.2:=by
 unfold rV
 rw[VE,decide_eq_true_eq,VT]
 exact and_congr Iff.rfl ⟨fun h s hs=>of_decide_eq_true (h s hs),fun h s hs=>decide_eq_true (h s hs)⟩
theorem Bs {p q:Re→Bool} (h:∀re,p re=true→q re=true) (re:Re) (hp:re.every p=true):re.every q=true:=by
 revert hp
 refine Re.ind (Q:=fun re=>re.every p=true→re.every q=true) (fun re ih hp=>?_) re
 obtain⟨h1,h2⟩:=(Re.cS re).1 hp
 exact(Re.cS re).2 ⟨h re h1,fun k hk=>ih k hk (h2 k hk)⟩
theorem yb {c:Nat} (hc:c≤1000000000) (re:Re) (h:re.every (rV c)=true):re.gi=true:=by
 revert h
 refine Re.ind (Q:=fun re=>re.every (rV c)=true→re.gi=true) (fun re ih h=>?_) re
 obtain⟨h1,h2⟩:=(Re.cS re).1 h
 obtain⟨⟨a1,a2,_⟩,_⟩:=x8.1 h1
 exact(Re.BT re).2 ⟨by omega,by omega,fun k hk=>ih k hk (h2 k hk)⟩
end Go.Proofs.Ytllagoeijcjpiaa
