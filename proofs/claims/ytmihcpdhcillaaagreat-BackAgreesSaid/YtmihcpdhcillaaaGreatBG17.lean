/- A part of the proof (F37 F38 F39 F40). -/
import Derived.Test.YtmihcpdhcillaaaGreatBG2
import Derived.Test.YtmihcpdhcillaaaGreatBG3
import Derived.Test.YtmihcpdhcillaaaGreatBG16
set_option linter.unusedSimpArgs false
set_option linter.unusedVariables false
set_option maxRecDepth 100000
set_option maxHeartbeats 80000000
set_option linter.unusedSimpArgs false
set_option linter.unusedVariables false
namespace Go.Proofs.YtmihcpdhcillaaaGreat
open Go.VL Go.Proofs.Tryz
end Go.Proofs.YtmihcpdhcillaaaGreat
namespace Go.Proofs.YtmihcpdhcillaaaGreat
open Go.VL Go.Proofs.Tryz
instance (n:Int):Decidable (jX n):=by unfold jX;infer_instance
def r9 (c:Nat) (r:Re):Bool:=decide (r.set.length≤c∧r.kids.length≤c∧jX r.op∧jX r.mn∧jX r.mx∧jX r.mode∧jX r.n)&&r.set.all fun s=>decide (jX s.1∧jX s.2)
structure fj.small (p:fj) (c:Nat):Prop where
 ev:p.re.every (r9 c)=true
 sz:p.re.size≤c
 ak:jX p.ak
theorem yg {c:Nat}{r:Re}:r9 c r=true ↔ (r.set.length≤c∧r.kids.length≤c∧jX r.op∧jX r.mn∧jX r.mx∧jX r.mode∧jX r.n)∧∀s∈r.set,jX s.1∧jX s.2:=by
 unfold r9
 rw[W7,decide_eq_true_eq,Xn]
 exact and_congr Iff.rfl ⟨fun h s hs=>of_decide_eq_true (h s hs),fun h s hs=>decide_eq_true (h s hs)⟩
theorem CQ {p q:Re→Bool} (h:∀re,p re=true→q re=true) (re:Re) (hp:re.every p=true):re.every q=true:=by
 revert hp
 refine Re.ind (Q:=fun re=>re.every p=true→re.every q=true) (fun re ih hp=>?_) re
 obtain⟨h1,h2⟩:=(Re.ck re).1 hp
 exact(Re.ck re).2 ⟨h re h1,fun k hk=>ih k hk (h2 k hk)⟩
theorem wY {c:Nat} (hc:c≤1000000000) (re:Re) (h:re.every (r9 c)=true):re.fA=true:=by
 revert h
 refine Re.ind (Q:=fun re=>re.every (r9 c)=true→re.fA=true) (fun re ih h=>?_) re
 obtain⟨h1,h2⟩:=(Re.ck re).1 h
 obtain⟨⟨a1,a2,_⟩,_⟩:=yg.1 h1
 exact(Re.B4 re).2 ⟨by omega,by omega,fun k hk=>ih k hk (h2 k hk)⟩
end Go.Proofs.YtmihcpdhcillaaaGreat
