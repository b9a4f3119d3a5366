/- A part of the proof (F46). -/
import Derived.Test.YtphfjhaffbfpfaaPM2
import Derived.Test.YtphfjhaffbfpfaaPM13
set_option linter.all false
set_option maxRecDepth 100000
set_option maxHeartbeats 80000000
namespace Go.Proofs.Ytphfjhaffbfpfaa
open Go.VL Go.Proofs.Try
theorem Pa (b:Bool):ba prog 32 [bV b] (i64 (fi b)):=by
 refine ar func32 rfl ntmps32 results32 rfl 0 5 (by simp) (by simp) ?_;cases b
 ·simp only[zX,simprocAttr,i64,bV,fi,adq]
 ·simp only[zX,simprocAttr,i64,bV,fi]
def CV (re:Re):Bool:=decide (0<=re.mn/\re.mn<=32/\0<=re.mode/\re.mode<=2/\(re.mx=-1\/(1<=re.mx/\re.mx<=32/\re.mn<=re.mx)))
theorem H7 (re:Re):ba prog 55 [bP re] (bV (CV re)):=by
 refine ar func55 rfl ntmps55 results55 rfl 0 5 (by simp) (by simp) ?_;simp only[zX,simprocAttr,i64,bP,Re.ae re,iD,bD]
 repeat' (first
 |(with_reducible refine And.intro (by first|omega|exact⟨by omega,by omega⟩|(simp;done)) ?_)
 |(with_reducible first|refine jh (λhc=>?_) (λhc=>?_)|refine dG (λhc=>?_) (λhc=>?_)|refine dN (λhc=>?_) (λhc=>?_)|refine dd (λhc=>?_) (λhc=>?_)|refine de (λhc=>?_) (λhc=>?_)|refine gv (λhc=>?_) (λhc=>?_)|refine dM (λhc=>?_) (λhc=>?_))<;>simp only[zX,simprocAttr,i64,iD,bD,hc])
 any_goals
  refine ao mix [] [] (by rfl) ?_;simp only[zX,simprocAttr,i64,iD,bD]
 any_goals
  repeat' (first
 |(with_reducible refine And.intro (by first|omega|exact⟨by omega,by omega⟩|(simp;done)) ?_)
 |(with_reducible first|refine jh (λhc=>?_) (λhc=>?_)|refine dG (λhc=>?_) (λhc=>?_)|refine dN (λhc=>?_) (λhc=>?_)|refine dd (λhc=>?_) (λhc=>?_)|refine de (λhc=>?_) (λhc=>?_)|refine gv (λhc=>?_) (λhc=>?_)|refine dM (λhc=>?_) (λhc=>?_))<;>simp only[zX,simprocAttr,i64,iD,bD,hc])
 all_goals first
  |(refine congrArg bV (Eq.symm (adl λh=>?_));omega)
  |(refine congrArg bV (Eq.symm (adu ?_));omega)
  |(refine congrArg bV (Eq.symm (decide_eq_decide.2 ?_));omega)
  |(refine congrArg bV (Eq.symm (decide_eq_decide.2 ?_));constructor <;> intro h <;> omega)
theorem zI (l:List (Int×Int)) (hl:l.length<=1000000000) (top:Int) (ht:top<=1114111):ba prog 54 [.d (.sl (l.map aN)),i64 top] (bV (gK l top)):=by
 refine ar func54 rfl ntmps54 results54 rfl 0 7283 (by simp) (by simp) ?_;by_cases V0:(64:Int)<l.length
 ·simp only[zX,simprocAttr,i64,V0];have:¬l.length<=64:=by omega
  simp [gK,bV,this]
 have Ta:l.length<=64:=by omega
 have hR:gK l top=iV top (-2) l:=by simp [gK,Ta]
 rw[hR];simp only[zX,simprocAttr,i64,V0];refine aJ (λn e s=>∃i:Nat,n=l.length-i/\i<=l.length/\e 0=.d (.sl (l.map aN))/\e 1=i64 top/\e 10=.d (.sl (l.map aN))/\e 11=i64 l.length/\e 12=i64 i/\s=[]/\iV top (-2) l=iV top (fx l i) (l.drop i)/\(0<i->0<=fx l i/\fx l i<=top))
  ⟨_,_,_,cU.refl,0,rfl,by omega,rfl,rfl,rfl,rfl,rfl,rfl,rfl,λh=>absurd h (by omega)⟩ ?_
 rintro n e s ⟨i,rfl,hi,h0,h1,eh,fm,dZ,rfl,du,LV⟩;rcases adV i l.length with aH|iP
 ·obtain⟨k,hk⟩:∃k,l[i]?=some k:=⟨_,adn aH⟩
  have hd:l.drop i=k::l.drop (i+1):=by rw[List.drop_eq_getElem_cons aH];rw[adn aH]at hk;simp only[adp]at hk;rw[hk]
  rw[hd]at du;simp only[iV]at du;have wD:fx l (i+1)=k.2:=by simp [fx,hk]
  simp only[zX,simprocAttr,i64,h0,h1,eh,fm,dZ,aH,hk,aN,iD];refine ao mix [] [] (by rfl) ?_;cases i with
  |zero =>
   have du:iV top (-2) l=(decide (0<=k.1/\k.1<=k.2/\k.2<=top/\-2+1<k.1)&&iV top k.2 (l.drop (0+1))):=du;simp only[zX,simprocAttr,i64,h0,h1,eh,fm,dZ,hk,aN,iD,adK]
   repeat' (first
 |(with_reducible refine And.intro (by first|omega|exact⟨by omega,by omega⟩|(simp;done)) ?_)
 |(with_reducible first|refine jh (λhc=>?_) (λhc=>?_)|refine dG (λhc=>?_) (λhc=>?_)|refine dN (λhc=>?_) (λhc=>?_)|refine dd (λhc=>?_) (λhc=>?_)|refine de (λhc=>?_) (λhc=>?_)|refine gv (λhc=>?_) (λhc=>?_)|refine dM (λhc=>?_) (λhc=>?_))<;>simp only[zX,simprocAttr,i64,h0,h1,eh,fm,dZ,hk,aN,iD,adK,hc])
   any_goals (refine congrArg bV (Eq.symm ?_);rw[du,show decide (0<=k.1/\k.1<=k.2/\k.2<=top/\-2+1<k.1)=false from adl (by omega)];rfl)
   refine⟨l.length-1,_,_,by omega,cU.cut 0 (by omega) rfl rfl [0,1,10,11,12] ?_,1,rfl,aH,?_,?_,?_,?_,?_,rfl,?_,?_⟩ <;> (try simp only[zU,Nat.reduceBEq,Nat.reduceShiftRight,Nat.reduceMod,Nat.reduceEqDiff,reduceIte])
   ·simp [cB,br,ak,h0,h1,eh,fm,i64]
   ·exact h0
   ·exact h1
   ·exact eh
   ·exact fm
   ·rw[bM _ (by omega)];rfl
   ·rw[du,wD,show decide (0<=k.1/\k.1<=k.2/\k.2<=top/\-2+1<k.1)=true from adu (by omega)];rfl
   ·intro _;rw[wD];omega
  |succ j =>
   obtain⟨kp,tV⟩:∃k,l[j]?=some k:=⟨_,adn (by omega:j<l.length)⟩
   have VI:fx l (j+1)=kp.2:=by simp [fx,tV]
   have LV:=LV (by omega);rw[VI]at LV du;have w1:IntKind.i64.wrap (((j+1:Nat):Int)-1)=(j:Int):=by rw[bM _ (by omega)];omega
   have w2:IntKind.i64.wrap (kp.2+2)=kp.2+2:=bM _ (by omega);have p0:(0:Int)<((j+1:Nat):Int):=by omega
   have q2:(j:Int)<l.length:=by omega
   simp only[zX,simprocAttr,i64,h0,h1,eh,fm,dZ,hk,aN,iD,tV,w1,w2,p0,q2]
   repeat' (first
 |(with_reducible refine And.intro (by first|omega|exact⟨by omega,by omega⟩|(simp;done)) ?_)
 |(with_reducible first|refine jh (λhc=>?_) (λhc=>?_)|refine dG (λhc=>?_) (λhc=>?_)|refine dN (λhc=>?_) (λhc=>?_)|refine dd (λhc=>?_) (λhc=>?_)|refine de (λhc=>?_) (λhc=>?_)|refine gv (λhc=>?_) (λhc=>?_)|refine dM (λhc=>?_) (λhc=>?_))<;>simp only[zX,simprocAttr,i64,h0,h1,eh,fm,dZ,hk,aN,iD,tV,w1,w2,p0,q2,hc])
   any_goals (refine congrArg bV (Eq.symm ?_);rw[du,show decide (0<=k.1/\k.1<=k.2/\k.2<=top/\kp.2+1<k.1)=false from adl (by omega)];rfl)
   refine⟨l.length-(j+1+1),_,_,by omega,cU.cut 0 (by omega) rfl rfl [0,1,10,11,12] ?_,j+1+1,rfl,aH,?_,?_,?_,?_,?_,rfl,?_,?_⟩ <;> (try simp only[zU,Nat.reduceBEq,Nat.reduceShiftRight,Nat.reduceMod,Nat.reduceEqDiff,reduceIte])
   ·simp [cB,br,ak,h0,h1,eh,fm,i64]
   ·exact h0
   ·exact h1
   ·exact eh
   ·exact fm
   ·rw[bM _ (by omega)];rfl
   ·rw[du,wD,show decide (0<=k.1/\k.1<=k.2/\k.2<=top/\kp.2+1<k.1)=true from adu (by omega)];rfl
   ·intro _;rw[wD];omega
 ·have fy:i=l.length:=by omega
  subst fy;simp only[zX,simprocAttr,i64,h0,h1,eh,fm,dZ,Nat.lt_irrefl];rw[du];simp [iV,bV]
end Go.Proofs.Ytphfjhaffbfpfaa
