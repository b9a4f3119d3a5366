/- A part of the proof (F42 F43). -/
import Derived.Test.YtpppfpaalcbggaaML20
import Derived.Test.YtpppfpaalcbggaaML21
set_option linter.unusedSimpArgs false
set_option linter.unusedVariables false
set_option maxRecDepth 100000
set_option maxHeartbeats 80000000
set_option linter.unusedSimpArgs false
set_option linter.unusedVariables false
namespace Go.Proofs.Ytpppfpaalcbggaa
open Go.VL Go.Proofs.Try
theorem nodeOk_iff {re:Re} {caps top:Int}:nodeOk re caps top=true ↔
  (0≤re.op∧re.op≤11∧(kidsR re.op).1≤re.kids.length∧((kidsR re.op).2 < 0∨(re.kids.length:Int)≤(kidsR re.op).2)) ∧
  (if re.op=1 then spansR re.set top=true else re.set.length=0) ∧
  (if re.op=4 then (0≤re.mn∧re.mn≤32∧-1≤re.mx∧re.mx≠0∧re.mx≤32∧(0 < re.mx→re.mn≤re.mx)∧0≤re.mode∧re.mode≤2) else (re.mn=0∧re.mx=0∧re.mode=0)) ∧
  (if re.op=5∨re.op=6∨re.op=10 then (1≤re.n∧re.n≤caps) else if re.op=11 then (0≤re.n∧re.n≤5) else re.n=0) ∧
  (re.neg=true→re.op=7∨re.op=8):=by
 unfold nodeOk
 simp only[Bool.and_eq_true,decide_eq_true_eq]
 refine and_congr Iff.rfl (and_congr ?_ (and_congr ?_ (and_congr ?_ ?_)))
 ·split <;> simp
 ·split <;> simp only[decide_eq_true_eq]
 ·split
  ·simp only[decide_eq_true_eq]
  ·split <;> simp only[decide_eq_true_eq]
 ·cases re.neg <;> simp
structure TOK (d:Nat) (m:Mk) (x:Re × Mk):Prop where
 caps:m.caps≤x.2.caps
 ok:x.1.whole x.2.caps 255=true
 dep:x.1.depth≤d + 1
 size:(x.1.size:Int)≤m.left - x.2.left
 low:m.left≤3→m.left - 1≤x.2.left
 high:4≤m.left→2 - 4 * (d:Int)≤x.2.left
structure TT (d:Nat) (t:Mk→Re × Mk) (c z:Int):Prop where
 good:Good t c z
 c0:0≤c
 z1:1≤z
 tok:∀m b,0≤b→Mk.In m b→TOK d m (t m)
structure FOK (d f:Nat) (m:Mk) (x:List Re × Mk):Prop where
 caps:m.caps≤x.2.caps
 ok:∀k∈x.1,k.whole x.2.caps 255=true
 dep:∀k∈x.1,k.depth≤d + 1
 size:(Re.sizeL x.1:Int)≤m.left - x.2.left
 bnd:∀B:Int,B≤2 - 4 * (d:Int)→B≤m.left→B - f≤x.2.left
structure NOK (d:Nat) (m:Mk) (x:Re × Mk):Prop where
 caps:m.caps≤x.2.caps
 ok:x.1.whole x.2.caps 255=true
 dep:x.1.depth≤d + 2
 size:(x.1.size:Int)≤1 + (m.left - x.2.left)
 bnd:∀B:Int,B≤2 - 4 * (d:Int)→B≤m.left→B - 4≤x.2.left
end Go.Proofs.Ytpppfpaalcbggaa
