/- A part of the proof (G33). -/
import Derived.Test.YtllagoeijcjpiaaBD9
import Derived.Test.YtllagoeijcjpiaaBD21
set_option linter.unusedSimpArgs false
set_option linter.unusedVariables false
set_option maxRecDepth 100000
set_option maxHeartbeats 80000000
namespace Go.Proofs.Ytllagoeijcjpiaa
open Go.VL Go.Proofs.Try
theorem DH (x:Int):bI prog 168 [i64 x] (bV (oH x)):=by
 refine av func168 rfl ntmps168 results168 rfl 0 5 (by simp) (by simp) ?_
 simp only[zX,simprocAttr,i64]
 repeat' (first
 |(with_reducible refine And.intro (by first|omega|exact⟨by omega,by omega⟩|(simp;done)) ?_)
 |(with_reducible refine jz (fun hc=>?_) (fun hc=>?_) <;> simp only[zX,simprocAttr,i64,ge_iff_le,hc])
 |(with_reducible refine dX (fun hc=>?_) (fun hc=>?_) <;> simp only[zX,simprocAttr,i64,ge_iff_le,hc])
 |(with_reducible refine dW (fun hc=>?_) (fun hc=>?_) <;> simp only[zX,simprocAttr,i64,ge_iff_le,hc])
 |(with_reducible refine dr (fun hc=>?_) (fun hc=>?_) <;> simp only[zX,simprocAttr,i64,ge_iff_le,hc])
 |(with_reducible refine dp (fun hc=>?_) (fun hc=>?_) <;> simp only[zX,simprocAttr,i64,ge_iff_le,hc])
 |(with_reducible refine gr (fun hc=>?_) (fun hc=>?_) <;> simp only[zX,simprocAttr,i64,ge_iff_le,hc])
 |(with_reducible refine dS (fun hc=>?_) (fun hc=>?_) <;> simp only[zX,simprocAttr,i64,ge_iff_le,hc]))
 all_goals (simp only[oH,bV];simp [*];try omega)
theorem Af (n:Int) (t:List Int) (i:Int) (ma:0≤n) (kv:n≤5) (ht:t.length≤1000000) (h0:0≤i) (h1:i≤t.length):bI prog 156 [i64 n,.d (ay t),i64 i] (bV (bN n t i)):=by
 have w1:IntKind.i64.wrap (i-1)=i-1:=bR _ (by omega)
 have hw:=DH (eH t (i-1))
 have OC:=DH (eH t i)
 simp only[i64,bV]at hw OC
 have u1:¬i<0:=by omega
 have u2:¬(t.length:Int)<i:=by omega
 have Qd:0<i→t[(i-1).toNat]?=some (eH t (i-1)):=fun h=>fD (by omega) (by omega)
 have O2:i<t.length→t[i.toNat]?=some (eH t i):=fun h=>fD h0 h
 have dG:n=0∨n=1∨n=2∨n=3∨n=4∨n=5:=by omega
 rcases dG with rfl|rfl|rfl|rfl|rfl|rfl
 ·refine av func156 rfl ntmps156 results156 rfl 0 9007199254872519 (by simp) (by simp) ?_
  simp only[zX,simprocAttr,i64,iD,ay,u1,u2,gt_iff_lt]
  simp [bN,bV]
 ·refine av func156 rfl ntmps156 results156 rfl 0 9007199254872519 (by simp) (by simp) ?_
  simp only[zX,simprocAttr,i64,iD,ay,u1,u2,gt_iff_lt]
  simp [bN,bV]
 ·by_cases c:i=0
  ·have e:=eq_true c
   refine av func156 rfl ntmps156 results156 rfl 0 9007199254872519 (by simp) (by simp) ?_
   simp only[zX,simprocAttr,i64,iD,ay,u1,u2,gt_iff_lt,e]
   simp [bN,bV,c]
  ·have b1:0≤i-1:=by omega
   have b2:i-1<(t.length:Int):=by omega
   have g1:=Qd (by omega)
   refine av func156 rfl ntmps156 results156 rfl 0 9007199254872519 (by simp) (by simp) ?_
   simp only[zX,simprocAttr,i64,iD,ay,u1,u2,gt_iff_lt,c,w1,b1,b2,g1]
   simp [bN,bV,c]
 ·by_cases c:i=(t.length:Int)
  ·have e:=eq_true c
   refine av func156 rfl ntmps156 results156 rfl 0 9007199254872519 (by simp) (by simp) ?_
   simp only[zX,simprocAttr,i64,iD,ay,u1,u2,gt_iff_lt,e]
   simp [bN,bV,c]
  ·have b2:i<(t.length:Int):=by omega
   have g2:=O2 b2
   refine av func156 rfl ntmps156 results156 rfl 0 9007199254872519 (by simp) (by simp) ?_
   simp only[zX,simprocAttr,i64,iD,ay,u1,u2,gt_iff_lt,c,h0,b2,g2]
   simp [bN,bV,c]
 all_goals
  by_cases c1:0<i
  ·have b1:0≤i-1:=by omega
   have b2:i-1<(t.length:Int):=by omega
   have g1:=Qd c1
   by_cases c2:i<(t.length:Int)
   ·have g2:=O2 c2
    refine av func156 rfl ntmps156 results156 rfl 0 9007199254872519 (by simp) (by simp) ?_
    simp only[zX,simprocAttr,i64,iD,ay,u1,u2,gt_iff_lt,c1,c2,w1,b1,b2,g1,g2,h0]
    refine aE hw rfl rfl ?_
    simp only[zX,simprocAttr,i64,iD,ay,u1,u2,gt_iff_lt,c1,c2,w1,b1,b2,g1,g2,h0]
    refine aE OC rfl rfl ?_
    simp only[zX,simprocAttr,i64,iD,ay,u1,u2,gt_iff_lt,c1,c2,w1,b1,b2,g1,g2,h0]
    simp [bN,bV,mi,jx,c1,c2] <;> (cases oH (eH t (i-1)) <;> cases oH (eH t i) <;> rfl)
   ·refine av func156 rfl ntmps156 results156 rfl 0 9007199254872519 (by simp) (by simp) ?_
    simp only[zX,simprocAttr,i64,iD,ay,u1,u2,gt_iff_lt,c1,c2,w1,b1,b2,g1,h0]
    refine aE hw rfl rfl ?_
    simp only[zX,simprocAttr,i64,iD,ay,u1,u2,gt_iff_lt,c1,c2,w1,b1,b2,g1,h0]
    simp [bN,bV,mi,jx,c1,c2]
  ·by_cases c2:i<(t.length:Int)
   ·have g2:=O2 c2
    refine av func156 rfl ntmps156 results156 rfl 0 9007199254872519 (by simp) (by simp) ?_
    simp only[zX,simprocAttr,i64,iD,ay,u1,u2,gt_iff_lt,c1,c2,g2,h0]
    refine aE OC rfl rfl ?_
    simp only[zX,simprocAttr,i64,iD,ay,u1,u2,gt_iff_lt,c1,c2,g2,h0]
    simp [bN,bV,mi,jx,c1,c2]
   ·refine av func156 rfl ntmps156 results156 rfl 0 9007199254872519 (by simp) (by simp) ?_
    simp only[zX,simprocAttr,i64,iD,ay,u1,u2,gt_iff_lt,c1,c2,h0]
    simp [bN,bV,mi,jx,c1,c2]
end Go.Proofs.Ytllagoeijcjpiaa
