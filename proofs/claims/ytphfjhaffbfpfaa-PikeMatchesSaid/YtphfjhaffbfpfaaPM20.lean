/- A part of the proof (K13 K14 K14B K14C K14D K14E). -/
import Derived.Test.YtphfjhaffbfpfaaPM6
import Derived.Test.YtphfjhaffbfpfaaPM19
set_option linter.all false
set_option maxRecDepth 100000
set_option maxHeartbeats 80000000
namespace Go.Proofs.Ytphfjhaffbfpfaa
open Go.VL Go.Proofs.Try
def wN (l:List (Int×Int)):Int:=if iV 1114111 (-2) l=true then (if 64<l.length then 4 else 0) else 1
def Kb (s:Int×Int):Bool:=decide (0<=s.1/\s.1<=s.2/\s.2<=1114111)
theorem Oy (s:Int×Int):ba prog 94 [.ag [i64 s.1,i64 s.2]] (bV (Kb s)):=by
 refine ar func94 rfl ntmps94 results94 rfl 0 7 (by simp) (by simp) ?_;simp only[zX,simprocAttr,-Int.reduceNatCast',i64,bV,ge_iff_le]
 repeat' (first
 |(with_reducible refine And.intro (by first|omega|exact⟨by omega,by omega⟩|(simp;done)) ?_)
 |(with_reducible first|refine jh (λhc=>?_) (λhc=>?_)|refine dG (λhc=>?_) (λhc=>?_)|refine dN (λhc=>?_) (λhc=>?_)|refine dd (λhc=>?_) (λhc=>?_)|refine de (λhc=>?_) (λhc=>?_)|refine gv (λhc=>?_) (λhc=>?_)|refine dM (λhc=>?_) (λhc=>?_))<;>simp only[zX,simprocAttr,-Int.reduceNatCast',i64,bV,ge_iff_le,hc])
 all_goals (simp only[Kb,bV];simp [*];try omega)
theorem MH {l:List (Int×Int)}{i:Nat}{k:Int×Int} (hk:l[i]?=some k) {p:Int} (h:iV 1114111 (-2) l=iV 1114111 p (l.drop i)):iV 1114111 (-2) l=(decide (0<=k.1/\k.1<=k.2/\k.2<=1114111/\p+1<k.1)&&iV 1114111 k.2 (l.drop (i+1))):=by rw[h];obtain⟨aH,he⟩:=List.getElem?_eq_some_iff.1 hk;rw[List.drop_eq_getElem_cons aH,he,iV]
theorem CU (l:List (Int×Int)) (hl:l.length<=1000000000):ba prog 77 [.d (.sl (l.map aN))] (i64 (wN l)):=by
 refine ar func77 rfl ntmps77 results77 rfl 0 253 (by simp) (by simp) ?_;simp only[zX,simprocAttr,-Int.reduceNatCast',i64];refine aJ (λn e s=>∃i:Nat,n=l.length-i/\i<=l.length/\e 0=.d (.sl (l.map aN))/\e 5=.d (.sl (l.map aN))/\e 6=i64 l.length/\e 7=i64 i/\s=[]/\iV 1114111 (-2) l=iV 1114111 (fx l i) (l.drop i)/\(0<i->0<=fx l i/\fx l i<=1114111))
  ⟨_,_,_,cU.refl,0,rfl,by omega,rfl,rfl,rfl,rfl,rfl,rfl,λh=>absurd h (by omega)⟩ ?_
 rintro n e s ⟨i,rfl,hi,h0,h5,h6,h3,rfl,du,LV⟩;rcases adV i l.length with aH|iP
 ·obtain⟨k,hk⟩:∃k,l[i]?=some k:=⟨_,adn aH⟩
  have du:=MH hk du;have wD:fx l (i+1)=k.2:=by simp [fx,hk]
  have hg:=Oy k;have bo:(i:Int)<l.length:=by omega
  simp only[i64,bV]at hg;by_cases c1:Kb k=true
  ·have zr:=of_decide_eq_true c1;rw[c1]at hg;cases i with
   |zero =>
    simp only[zX,simprocAttr,-Int.reduceNatCast',i64,iD,bD,aN,h0,h5,h6,h3,bo,hk];refine ao mix [] [] (by rfl) ?_;simp only[zX,simprocAttr,-Int.reduceNatCast',i64,iD,bD,aN,h0,h5,h6,h3,bo,hk,ads,adK,gt_iff_lt];refine bY hg rfl rfl ?_;simp only[zX,simprocAttr,-Int.reduceNatCast',i64,iD,bD,aN,h0,h5,h6,h3,bo,hk,ads,adK,gt_iff_lt];refine⟨l.length-1,_,_,by omega,cU.cut (s':=[]) 0 (by omega) rfl rfl [0,5,6,7] (by simp [cB,br,ak,h0,h5,h6,h3,i64]),1,rfl,aH,?_,?_,?_,?_,rfl,?_,?_⟩ <;> (try simp only[zU,Nat.reduceBEq,Nat.reduceShiftRight,Nat.reduceMod,Nat.reduceEqDiff,reduceIte])
    ·exact h0
    ·exact h5
    ·exact h6
    ·rw[bM _ (by omega)];rfl
    ·rw[du,wD,show decide (0<=k.1/\k.1<=k.2/\k.2<=1114111/\fx l 0+1<k.1)=true from adu ⟨zr.1,zr.2.1,zr.2.2,by show (-2:Int)+1<k.1;omega⟩];rfl
    ·intro _;rw[wD];omega
   |succ j =>
    obtain⟨kp,tV⟩:∃k,l[j]?=some k:=⟨_,adn (by omega:j<l.length)⟩
    have VI:fx l (j+1)=kp.2:=by simp [fx,tV]
    have LV:=LV (by omega);rw[VI]at LV du;have w1:IntKind.i64.wrap (((j+1:Nat):Int)-1)=(j:Int):=by rw[bM _ (by omega)];omega
    have w2:IntKind.i64.wrap (k.1-kp.2)=k.1-kp.2:=bM _ (by omega);have w3:IntKind.i64.wrap (kp.2+2)=kp.2+2:=bM _ (by omega);have p0:(0:Int)<((j+1:Nat):Int):=by omega
    have q1:(0:Int)<=(j:Int):=by omega
    have q2:(j:Int)<l.length:=by omega
    by_cases c2:k.1<kp.2+2
    ·have V7:=eq_true c2;simp only[zX,simprocAttr,-Int.reduceNatCast',i64,iD,bD,aN,h0,h5,h6,h3,bo,hk,tV,w1,w2,w3,p0,q1,q2,ads,gt_iff_lt];refine ao mix [] [] (by rfl) ?_;simp only[zX,simprocAttr,-Int.reduceNatCast',i64,iD,bD,aN,h0,h5,h6,h3,bo,hk,tV,w1,w2,w3,p0,q1,q2,V7,ads,gt_iff_lt];refine bY hg rfl rfl ?_;simp only[zX,simprocAttr,-Int.reduceNatCast',i64,iD,bD,aN,h0,h5,h6,h3,bo,hk,tV,w1,w2,w3,p0,q1,q2,V7,ads,gt_iff_lt];have:wN l=1:=by unfold wN;rw[am];rw[du,adl (by omega)];simp
     rw[this]
    ·have V7:=c2;simp only[zX,simprocAttr,-Int.reduceNatCast',i64,iD,bD,aN,h0,h5,h6,h3,bo,hk,tV,w1,w2,w3,p0,q1,q2,ads,gt_iff_lt];refine ao mix [] [] (by rfl) ?_;simp only[zX,simprocAttr,-Int.reduceNatCast',i64,iD,bD,aN,h0,h5,h6,h3,bo,hk,tV,w1,w2,w3,p0,q1,q2,V7,ads,gt_iff_lt];refine bY hg rfl rfl ?_;simp only[zX,simprocAttr,-Int.reduceNatCast',i64,iD,bD,aN,h0,h5,h6,h3,bo,hk,tV,w1,w2,w3,p0,q1,q2,V7,ads,gt_iff_lt];refine⟨l.length-(j+1+1),_,_,by omega,cU.cut (s':=[]) 0 (by omega) rfl rfl [0,5,6,7] (by simp [cB,br,ak,h0,h5,h6,h3,i64]),j+1+1,rfl,aH,?_,?_,?_,?_,rfl,?_,?_⟩ <;> (try simp only[zU,Nat.reduceBEq,Nat.reduceShiftRight,Nat.reduceMod,Nat.reduceEqDiff,reduceIte])
     ·exact h0
     ·exact h5
     ·exact h6
     ·rw[bM _ (by omega)];rfl
     ·rw[du,wD,show decide (0<=k.1/\k.1<=k.2/\k.2<=1114111/\kp.2+1<k.1)=true from adu (by omega)];rfl
     ·intro _;rw[wD];omega
  ·have c1:Kb k=false:=by simpa using c1
   have zr:=of_decide_eq_false c1;rw[c1]at hg;simp only[zX,simprocAttr,-Int.reduceNatCast',i64,iD,bD,aN,h0,h5,h6,h3,bo,hk];refine ao mix [] [] (by rfl) ?_;simp only[zX,simprocAttr,-Int.reduceNatCast',i64,iD,bD,aN,h0,h5,h6,h3,bo,hk,adz];refine bY hg rfl rfl ?_;simp only[zX,simprocAttr,-Int.reduceNatCast',i64,iD,bD,aN,h0,h5,h6,h3,bo,hk,adz];have:wN l=1:=by unfold wN;rw[am];rw[du,adl (by omega)];simp
   rw[this]
 ·have fy:i=l.length:=by omega
  subst fy;have bo:¬(l.length:Int)<l.length:=by omega
  have fW:iV 1114111 (-2) l=true:=by rw[du];simp [iV]
  unfold wN;rw[ap fW];by_cases c:64<l.length
  ·have c':(64:Int)<(l.length:Int):=by omega
   rw[ap c];simp only[zX,simprocAttr,-Int.reduceNatCast',i64,iD,bD,h0,h5,h6,h3,bo,c',gt_iff_lt]
  ·have c':¬(64:Int)<(l.length:Int):=by omega
   rw[am c];simp only[zX,simprocAttr,-Int.reduceNatCast',i64,iD,bD,h0,h5,h6,h3,bo,c',gt_iff_lt]
def qK (n x:Int):Bool:=decide (0<=x/\x<n)
def M4 (aK:Bool) (l:List (Int×Int)):Bool:=aK||(match l[l.length-1]? with|none=>true|some s=>decide (s.2<=255))
def mV (n ah:Int) (aK:Bool) (x:bR):Bool :=
 if x.op=0 then true else if x.op=1 then decide (wN x.set=0)&&M4 aK x.set else if x.op=2 then qK n x.x&&qK n x.y else if x.op=3 then qK n x.x
 else if x.op=4 then decide (0<=x.n/\x.n<2*ah) else if x.op=5 then decide (0<=x.n/\x.n<=5) else false
def dk (x:bR):Bool:=decide ((x.op≠1->x.set.length=0)/\(x.op≠2->x.y=0)/\(x.op≠2->x.op≠3->x.x=0)/\(x.op≠4->x.op≠5->x.n=0))
def iw (n ah:Int) (aK:Bool) (x:bR):Bool:=dk x&&mV n ah aK x
def pK (g:cJ):Int:=match g.ins[g.ins.length-1]? with|none=>0|some x=>x.op
def gV (g:cJ):Int :=
 if 8192<g.ins.length then 4 else if g.ins.length=0\/g.ah<0\/9<g.ah then 1
 else if g.ins.all (iw g.ins.length g.ah g.aK)=true then (if pK g=1\/4<=pK g then 1 else 0) else 1
end Go.Proofs.Ytphfjhaffbfpfaa
namespace Go.Proofs.Ytphfjhaffbfpfaa
open Go.VL Go.Proofs.Try
end Go.Proofs.Ytphfjhaffbfpfaa
namespace Go.Proofs.Ytphfjhaffbfpfaa
open Go.VL Go.Proofs.Try
end Go.Proofs.Ytphfjhaffbfpfaa
