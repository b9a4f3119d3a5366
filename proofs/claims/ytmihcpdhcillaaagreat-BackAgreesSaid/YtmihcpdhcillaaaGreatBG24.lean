/- A part of the proof (G33). -/
import Derived.Test.YtmihcpdhcillaaaGreatBG8
import Derived.Test.YtmihcpdhcillaaaGreatBG22
set_option linter.unusedSimpArgs false
set_option linter.unusedVariables false
set_option maxRecDepth 100000
set_option maxHeartbeats 80000000
namespace Go.Proofs.YtmihcpdhcillaaaGreat
open Go.VL Go.Proofs.Tryz
theorem Cj (x:Int):br prog 104 [i64 x] (bV (oR x)):=by
 refine aw func104 rfl ntmps104 results104 rfl 0 5 (by simp) (by simp) ?_
 simp only[zX,simprocAttr,i64]
 repeat' (first
 |(with_reducible refine And.intro (by first|omega|exact⟨by omega,by omega⟩|(simp;done)) ?_)
 |(with_reducible refine je (fun hc=>?_) (fun hc=>?_) <;> simp only[zX,simprocAttr,i64,ge_iff_le,hc])
 |(with_reducible refine dR (fun hc=>?_) (fun hc=>?_) <;> simp only[zX,simprocAttr,i64,ge_iff_le,hc])
 |(with_reducible refine dQ (fun hc=>?_) (fun hc=>?_) <;> simp only[zX,simprocAttr,i64,ge_iff_le,hc])
 |(with_reducible refine de (fun hc=>?_) (fun hc=>?_) <;> simp only[zX,simprocAttr,i64,ge_iff_le,hc])
 |(with_reducible refine dh (fun hc=>?_) (fun hc=>?_) <;> simp only[zX,simprocAttr,i64,ge_iff_le,hc])
 |(with_reducible refine gi (fun hc=>?_) (fun hc=>?_) <;> simp only[zX,simprocAttr,i64,ge_iff_le,hc])
 |(with_reducible refine dP (fun hc=>?_) (fun hc=>?_) <;> simp only[zX,simprocAttr,i64,ge_iff_le,hc]))
 all_goals (simp only[oR,bV];simp [*];try omega)
theorem uz (n:Int) (t:List Int) (i:Int) (nj:0≤n) (fY:n≤5) (ht:t.length≤1000000) (h0:0≤i) (h1:i≤t.length):br prog 93 [i64 n,.d (aB t),i64 i] (bV (bO n t i)):=by
 have w1:IntKind.i64.wrap (i-1)=i-1:=bU _ (by omega)
 have hw:=Cj (fX t (i-1))
 have OE:=Cj (fX t i)
 simp only[i64,bV]at hw OE
 have u1:¬i<0:=by omega
 have u2:¬(t.length:Int)<i:=by omega
 have Qq:0<i→t[(i-1).toNat]?=some (fX t (i-1)):=fun h=>iA (by omega) (by omega)
 have PJ:i<t.length→t[i.toNat]?=some (fX t i):=fun h=>iA h0 h
 have rE:n=0∨n=1∨n=2∨n=3∨n=4∨n=5:=by omega
 rcases rE with rfl|rfl|rfl|rfl|rfl|rfl
 ·refine aw func93 rfl ntmps93 results93 rfl 0 9007199254872519 (by simp) (by simp) ?_
  simp only[zX,simprocAttr,i64,iD,aB,u1,u2,gt_iff_lt]
  simp [bO,bV]
 ·refine aw func93 rfl ntmps93 results93 rfl 0 9007199254872519 (by simp) (by simp) ?_
  simp only[zX,simprocAttr,i64,iD,aB,u1,u2,gt_iff_lt]
  simp [bO,bV]
 ·by_cases c:i=0
  ·have e:=eq_true c
   refine aw func93 rfl ntmps93 results93 rfl 0 9007199254872519 (by simp) (by simp) ?_
   simp only[zX,simprocAttr,i64,iD,aB,u1,u2,gt_iff_lt,e]
   simp [bO,bV,c]
  ·have b1:0≤i-1:=by omega
   have b2:i-1<(t.length:Int):=by omega
   have g1:=Qq (by omega)
   refine aw func93 rfl ntmps93 results93 rfl 0 9007199254872519 (by simp) (by simp) ?_
   simp only[zX,simprocAttr,i64,iD,aB,u1,u2,gt_iff_lt,c,w1,b1,b2,g1]
   simp [bO,bV,c]
 ·by_cases c:i=(t.length:Int)
  ·have e:=eq_true c
   refine aw func93 rfl ntmps93 results93 rfl 0 9007199254872519 (by simp) (by simp) ?_
   simp only[zX,simprocAttr,i64,iD,aB,u1,u2,gt_iff_lt,e]
   simp [bO,bV,c]
  ·have b2:i<(t.length:Int):=by omega
   have g2:=PJ b2
   refine aw func93 rfl ntmps93 results93 rfl 0 9007199254872519 (by simp) (by simp) ?_
   simp only[zX,simprocAttr,i64,iD,aB,u1,u2,gt_iff_lt,c,h0,b2,g2]
   simp [bO,bV,c]
 all_goals
  by_cases c1:0<i
  ·have b1:0≤i-1:=by omega
   have b2:i-1<(t.length:Int):=by omega
   have g1:=Qq c1
   by_cases c2:i<(t.length:Int)
   ·have g2:=PJ c2
    refine aw func93 rfl ntmps93 results93 rfl 0 9007199254872519 (by simp) (by simp) ?_
    simp only[zX,simprocAttr,i64,iD,aB,u1,u2,gt_iff_lt,c1,c2,w1,b1,b2,g1,g2,h0]
    refine aD hw rfl rfl ?_
    simp only[zX,simprocAttr,i64,iD,aB,u1,u2,gt_iff_lt,c1,c2,w1,b1,b2,g1,g2,h0]
    refine aD OE rfl rfl ?_
    simp only[zX,simprocAttr,i64,iD,aB,u1,u2,gt_iff_lt,c1,c2,w1,b1,b2,g1,g2,h0]
    simp [bO,bV,mH,ji,c1,c2] <;> (cases oR (fX t (i-1)) <;> cases oR (fX t i) <;> rfl)
   ·refine aw func93 rfl ntmps93 results93 rfl 0 9007199254872519 (by simp) (by simp) ?_
    simp only[zX,simprocAttr,i64,iD,aB,u1,u2,gt_iff_lt,c1,c2,w1,b1,b2,g1,h0]
    refine aD hw rfl rfl ?_
    simp only[zX,simprocAttr,i64,iD,aB,u1,u2,gt_iff_lt,c1,c2,w1,b1,b2,g1,h0]
    simp [bO,bV,mH,ji,c1,c2]
  ·by_cases c2:i<(t.length:Int)
   ·have g2:=PJ c2
    refine aw func93 rfl ntmps93 results93 rfl 0 9007199254872519 (by simp) (by simp) ?_
    simp only[zX,simprocAttr,i64,iD,aB,u1,u2,gt_iff_lt,c1,c2,g2,h0]
    refine aD OE rfl rfl ?_
    simp only[zX,simprocAttr,i64,iD,aB,u1,u2,gt_iff_lt,c1,c2,g2,h0]
    simp [bO,bV,mH,ji,c1,c2]
   ·refine aw func93 rfl ntmps93 results93 rfl 0 9007199254872519 (by simp) (by simp) ?_
    simp only[zX,simprocAttr,i64,iD,aB,u1,u2,gt_iff_lt,c1,c2,h0]
    simp [bO,bV,mH,ji,c1,c2]
end Go.Proofs.YtmihcpdhcillaaaGreat
