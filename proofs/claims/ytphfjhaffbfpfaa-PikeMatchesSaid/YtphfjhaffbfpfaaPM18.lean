/- A part of the proof (G33 K16). -/
import Derived.Test.YtphfjhaffbfpfaaPM8
import Derived.Test.YtphfjhaffbfpfaaPM17
set_option linter.all false
set_option maxRecDepth 100000
set_option maxHeartbeats 80000000
namespace Go.Proofs.Ytphfjhaffbfpfaa
open Go.VL Go.Proofs.Try
theorem Gy (x:Int):ba prog 78 [i64 x] (bV (qn x)):=by
 refine ar func78 rfl ntmps78 results78 rfl 0 5 (by simp) (by simp) ?_;simp only[zX,simprocAttr,i64]
 repeat' (first
 |(with_reducible refine And.intro (by first|omega|exact⟨by omega,by omega⟩|(simp;done)) ?_)
 |(with_reducible first|refine jh (λhc=>?_) (λhc=>?_)|refine dG (λhc=>?_) (λhc=>?_)|refine dN (λhc=>?_) (λhc=>?_)|refine dd (λhc=>?_) (λhc=>?_)|refine de (λhc=>?_) (λhc=>?_)|refine gv (λhc=>?_) (λhc=>?_)|refine dM (λhc=>?_) (λhc=>?_))<;>simp only[zX,simprocAttr,i64,ge_iff_le,hc])
 all_goals (simp only[qn,bV];simp [*];try omega)
theorem wF (n:Int) (t:List Int) (i:Int) (nq:0<=n) (lX:n<=5) (ht:t.length<=1000000) (h0:0<=i) (h1:i<=t.length):ba prog 60 [i64 n,.d (av t),i64 i] (bV (bN n t i)):=by
 have w1:IntKind.i64.wrap (i-1)=i-1:=bM _ (by omega);have hw:=Gy (gQ t (i-1));have Rf:=Gy (gQ t i);simp only[i64,bV]at hw Rf;have u1:¬i<0:=by omega
 have u2:¬(t.length:Int)<i:=by omega
 have Xa:0<i->t[(i-1).toNat]?=some (gQ t (i-1)):=λh=>ju (by omega) (by omega);have Mb:i<t.length->t[i.toNat]?=some (gQ t i):=λh=>ju h0 h;have tC:n=0\/n=1\/n=2\/n=3\/n=4\/n=5:=by omega
 rcases tC with rfl|rfl|rfl|rfl|rfl|rfl
 ·refine ar func60 rfl ntmps60 results60 rfl 0 9007199254872519 (by simp) (by simp) ?_;simp only[zX,simprocAttr,i64,iD,av,u1,u2,gt_iff_lt];simp [bN,bV]
 ·refine ar func60 rfl ntmps60 results60 rfl 0 9007199254872519 (by simp) (by simp) ?_;simp only[zX,simprocAttr,i64,iD,av,u1,u2,gt_iff_lt];simp [bN,bV]
 ·by_cases c:i=0
  ·have e:=eq_true c;refine ar func60 rfl ntmps60 results60 rfl 0 9007199254872519 (by simp) (by simp) ?_;simp only[zX,simprocAttr,i64,iD,av,u1,u2,gt_iff_lt,e];simp [bN,bV,c]
  ·have b1:0<=i-1:=by omega
   have b2:i-1<(t.length:Int):=by omega
   have g1:=Xa (by omega);refine ar func60 rfl ntmps60 results60 rfl 0 9007199254872519 (by simp) (by simp) ?_;simp only[zX,simprocAttr,i64,iD,av,u1,u2,gt_iff_lt,c,w1,b1,b2,g1];simp [bN,bV,c]
 ·by_cases c:i=(t.length:Int)
  ·have e:=eq_true c;refine ar func60 rfl ntmps60 results60 rfl 0 9007199254872519 (by simp) (by simp) ?_;simp only[zX,simprocAttr,i64,iD,av,u1,u2,gt_iff_lt,e];simp [bN,bV,c]
  ·have b2:i<(t.length:Int):=by omega
   have g2:=Mb b2;refine ar func60 rfl ntmps60 results60 rfl 0 9007199254872519 (by simp) (by simp) ?_;simp only[zX,simprocAttr,i64,iD,av,u1,u2,gt_iff_lt,c,h0,b2,g2];simp [bN,bV,c]
 all_goals
  by_cases c1:0<i
  ·have b1:0<=i-1:=by omega
   have b2:i-1<(t.length:Int):=by omega
   have g1:=Xa c1;by_cases c2:i<(t.length:Int)
   ·have g2:=Mb c2;refine ar func60 rfl ntmps60 results60 rfl 0 9007199254872519 (by simp) (by simp) ?_;simp only[zX,simprocAttr,i64,iD,av,u1,u2,gt_iff_lt,c1,c2,w1,b1,b2,g1,g2,h0];refine az hw rfl rfl ?_;simp only[zX,simprocAttr,i64,iD,av,u1,u2,gt_iff_lt,c1,c2,w1,b1,b2,g1,g2,h0];refine az Rf rfl rfl ?_;simp only[zX,simprocAttr,i64,iD,av,u1,u2,gt_iff_lt,c1,c2,w1,b1,b2,g1,g2,h0];simp [bN,bV,ny,jX,c1,c2] <;> (cases qn (gQ t (i-1)) <;> cases qn (gQ t i) <;> rfl)
   ·refine ar func60 rfl ntmps60 results60 rfl 0 9007199254872519 (by simp) (by simp) ?_;simp only[zX,simprocAttr,i64,iD,av,u1,u2,gt_iff_lt,c1,c2,w1,b1,b2,g1,h0];refine az hw rfl rfl ?_;simp only[zX,simprocAttr,i64,iD,av,u1,u2,gt_iff_lt,c1,c2,w1,b1,b2,g1,h0];simp [bN,bV,ny,jX,c1,c2]
  ·by_cases c2:i<(t.length:Int)
   ·have g2:=Mb c2;refine ar func60 rfl ntmps60 results60 rfl 0 9007199254872519 (by simp) (by simp) ?_;simp only[zX,simprocAttr,i64,iD,av,u1,u2,gt_iff_lt,c1,c2,g2,h0];refine az Rf rfl rfl ?_;simp only[zX,simprocAttr,i64,iD,av,u1,u2,gt_iff_lt,c1,c2,g2,h0];simp [bN,bV,ny,jX,c1,c2]
   ·refine ar func60 rfl ntmps60 results60 rfl 0 9007199254872519 (by simp) (by simp) ?_;simp only[zX,simprocAttr,i64,iD,av,u1,u2,gt_iff_lt,c1,c2,h0];simp [bN,bV,ny,jX,c1,c2]
end Go.Proofs.Ytphfjhaffbfpfaa
