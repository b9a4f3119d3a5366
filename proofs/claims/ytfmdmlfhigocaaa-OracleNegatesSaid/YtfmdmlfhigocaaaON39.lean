/- A part of the proof (F49 O23 O15 O16). -/
import Derived.Test.YtfmdmlfhigocaaaON32
import Derived.Test.YtfmdmlfhigocaaaON36
import Derived.Test.YtfmdmlfhigocaaaON38
set_option linter.unusedSimpArgs false
set_option linter.unusedVariables false
open Nat renaming reduceShiftRight → cQ, reduceMod → dx, reduceLT → dB, reduceMul → dC, reduceSub → dD, reduceEqDiff → eI, reduceAdd → eJ, reduceLeDiff → fX, reduceBEq → gj
open Int renaming reduceToNat → gl, reduceNeg → ja, reduceLT → jg, reduceLE → jk, reduceEq → mA
set_option maxRecDepth 100000
set_option maxHeartbeats 80000000
namespace Go.Proofs.Ytfmdmlfhigocaaa
open Go.VL Go.Proofs.Try
theorem Gz (p:ic) (g:Bool) (hg:g=(decide (0<=p.ak)&&decide (p.ak<=9))) :
  (if (p.re.vw p.ak (gz p.aN) 1 0 g).1=true then (if (p.re.vw p.ak (gz p.aN) 1 0 g).2.2=true then (0:Int) else 1) else 4)=cC p:=by
 obtain⟨a1,_,_,a4⟩:=TP p.ak (gz p.aN) p.re 1 0 g (by omega) (by omega);by_cases h:(p.re.vw p.ak (gz p.aN) 1 0 g).1=true
 ·have h1:=a1.1 h;have hv:cC p=if p.ak<0\/9<p.ak\/p.re.whole p.ak (gz p.aN)=false then 1 else 0:=by unfold cC;rw[ap (by omega)]
  rw[be h,hv,(a4 h).2,hg];cases hw:p.re.whole p.ak (gz p.aN)
  ·rw[ap (by simp),be (.inr (.inr rfl))]
  ·by_cases hc:p.ak<0\/9<p.ak
   ·rw[ap (by simp only[af5,agb,decide_eq_true_eq];omega),be (by omega)]
   ·rw[be (by simp only[af5,agb,decide_eq_true_eq];omega),ap (by rintro (h'|h'|h') <;> first|omega|cases h')]
 ·have hh:¬(0+(p.re.size:Int)<=256/\1+p.re.depth-1<=24):=λhh=>h (a1.2 hh);have hv:cC p=4:=by unfold cC;rw[be (by omega)]
  rw[ap h,hv]
theorem Q8 (p:ic) (hf:p.re.bC=true):aO prog 35 [.ag ((GJ p).map .d)] (i64 (cC p)):=by
 have hto:=Rj p.aN;have JP:gz p.aN<=1114111:=by unfold gz;split <;> omega
 have hk:∀g:Bool,g=(decide (0<=p.ak)&&decide (p.ak<=9))->aq prog 67 [.d (.el (GJ p)),i64 1,.rf 0 0 0 0,.rf 1 0 0 0,.d (.el (GJ p)),.rf 3 0 0 0,.rf 4 0 0 0] [nL 0,gO g,qn false p,nL (gz p.aN),jb 67]
   λv s=>v=bV (p.re.vw p.ak (gz p.aN) 1 0 g).1/\s=[nL (p.re.vw p.ak (gz p.aN) 1 0 g).2.1,gO (p.re.vw p.ak (gz p.aN) 1 0 g).2.2,qn false p,nL (gz p.aN),jb 67]:=by
  intro g _;have:=Oi p (gz p.aN) JP p.re hf 1 0 g false (.d (.el (GJ p))) (.inr rfl) (by omega) (by omega) (by omega) (by omega);exact Nq (ex:=[iD p.ak,bD p.aN]) this
 have fin:=λg hg=>Gz p g hg;generalize hG:(decide (0<=p.ak)&&decide (p.ak<=9))=G at hk fin;have hk:=hk G rfl;have fin:=fin G rfl;generalize p.re.vw p.ak (gz p.aN) 1 0 G=R at hk fin;obtain⟨R1,R2,R3⟩:=R;simp only at fin;rw[<- fin];simp only[qn,iK p,iD,bD,bV,i64,afR,afU]at hk hto ⊢;refine an func35 rfl ntmps35 results35 rfl 0 127 (by simp) (by simp) ?_;simp only[zX,simprocAttr,i64,iD,bD,afR,afU];by_cases g1:0<=p.ak;all_goals
  try (by_cases g2:p.ak<=9)
 all_goals
  first
   |(have Yd:G=true:=by rw[<- hG,bi g1,bi g2];rfl
     subst Yd;simp only[zX,simprocAttr,i64,iD,bD,g1,g2])
   |(have Yd:G=false:=by rw[<- hG,bi g1,b6 g2];rfl
     subst Yd;simp only[zX,simprocAttr,i64,iD,bD,g1,g2])
   |(have Yd:G=false:=by rw[<- hG,b6 g1];rfl
     subst Yd;simp only[zX,simprocAttr,i64,iD,bD,g1])
  refine aj hto rfl rfl ?_;simp only[zX,simprocAttr,i64,iD,bD];refine bc [0] rfl ?_;refine cH [1,2,0,3,4] hk (by decide) rfl rfl rfl (by simp [ah,ah.go]) (by simp [aG,nL,gO,qn,jb,ah,ah.go,i64,bV]) rfl ?_;cases R1
  ·simp only[zX,simprocAttr,i64,bE,bM,aT,aL,aL.go,nL,gO,qn,iK p,jb,bV,aE,iD,bD];all_goals first|exact⟨rfl,rfl⟩|exact⟨rfl,trivial⟩|rfl|trivial|(rw[ai];rfl)
  ·cases R3
   ·simp only[zX,simprocAttr,i64,bE,bM,aT,aL,aL.go,nL,gO,qn,iK p,jb,bV,aE,iD,bD];all_goals first|exact⟨rfl,rfl⟩|exact⟨rfl,trivial⟩|rfl|trivial|(rw[ai];rfl)
   ·simp only[zX,simprocAttr,i64,bE,bM,aT,aL,aL.go,nL,gO,qn,iK p,jb,bV,aE,iD,bD];all_goals first|exact⟨rfl,rfl⟩|exact⟨rfl,trivial⟩|rfl|trivial|(rw[ai];rfl)
theorem Ov (re:Re) (hs:re.every mv=true):aO Try.prog 37 [fv re] (bV (mS re)):=by
 have hl:=BJ re hs;have hlr:=A7 re;have hp:=λK hk=>cH [1] (Rv re hs) (by decide) rfl (s:=[av re,⟨0,true,1,[[.cl (.func 70) [] [.rf 1 0 0 0]]]⟩]) (args:=[fv re,.rf 1 0 0 0]) rfl (by rw[ai];simp [aL,aL.go,i64,bV]) (by rw[ai];simp [ah,ah.go,i64,bV]) (by rfl) (r':=bV (re.every Dp)) rfl (K:=K) hk;have w1:IntKind.i64.wrap (1+dm re)=1+dm re:=bd _ (by omega);unfold mS;rw[ai]at hl;simp only[ai re,i64,av,Re.ae re,afR,afU,iD,bD]at hl hp;generalize dm re=y at *;by_cases c:1+y<=8192
 ·rw[bi c,Bool.true_and];refine an Try.func37 rfl Try.ntmps37 Try.results37 rfl 0 15 (by simp) (by simp) ?_;simp only[zX,cQ,dx,dB,dC,dD,gl,ja,jg,jk,mA,eI,eJ,fX,reduceIte,reduceCtorEq,gj,i64,ai re,iD,bD,bV];refine aj hl (by simp [ah,ah.go]) rfl ?_;simp only[zX,cQ,dx,dB,dC,dD,gl,ja,jg,jk,mA,eI,eJ,fX,reduceIte,reduceCtorEq,gj,i64,ai re,iD,bD,bV,w1,c];refine hp _ ?_;simp only[zX,cQ,dx,dB,dC,dD,gl,ja,jg,jk,mA,eI,eJ,fX,reduceIte,reduceCtorEq,gj,i64,ai re,iD,bD,bV,w1,c];all_goals rfl
 ·rw[b6 c,Bool.false_and];refine an Try.func37 rfl Try.ntmps37 Try.results37 rfl 0 15 (by simp) (by simp) ?_;simp only[zX,cQ,dx,dB,dC,dD,gl,ja,jg,jk,mA,eI,eJ,fX,reduceIte,reduceCtorEq,gj,i64,ai re,iD,bD,bV];refine aj hl (by simp [ah,ah.go]) rfl ?_;simp only[zX,cQ,dx,dB,dC,dD,gl,ja,jg,jk,mA,eI,eJ,fX,reduceIte,reduceCtorEq,gj,i64,ai re,iD,bD,bV,w1,c];all_goals rfl
theorem UP {re:Re}{ak top:Int} (h:bK re ak top=true) (hc:ak<=9) (hk:re.kids.length<=1000):mv re=true:=by
 obtain⟨h1,h2,h3,h4,h5⟩:=fz.1 h;have fx:re.set.length<=64:=by
  split at h2
  ·simp only[gZ,agb,decide_eq_true_eq]at h2;exact h2.1
  ·omega
 have Cd:(re.op=4\/re.op=5\/re.op=7\/re.op=8)->(cr re.op).1=1/\(cr re.op).2=1:=λo=>by rcases o with o|o|o|o <;> rw[o] <;> simp [cr]
 have F5:re.op=3->(cr re.op).1=2:=λo=>by rw[o];simp [cr]
 refine jS.2 ⟨λo=>?_,λo=>?_,hk,?_⟩
 ·have:=Cd o;omega
 ·have:=F5 o;omega
 ·by_cases o4:re.op=4
  ·rw[be o4]at h3;rw[ap (by omega),ap (by omega)]at h4;refine⟨by omega,by omega,by omega,by omega,λ_=>by omega,by omega,by omega,λh=>by omega,λh=>by omega,by omega,by omega,by omega⟩
  ·rw[ap o4]at h3;refine⟨by omega,by omega,by omega,by omega,λh=>absurd h o4,?_⟩;by_cases o5:re.op=5\/re.op=6\/re.op=10
   ·rw[be o5]at h4;exact⟨by omega,by omega,λh=>by omega,λh=>by omega,by omega,by omega,by omega⟩
   ·rw[ap o5]at h4;by_cases rO:re.op=11
    ·rw[be rO]at h4;exact⟨by omega,by omega,λh=>by omega,λh=>by omega,by omega,by omega,by omega⟩
    ·rw[ap rO]at h4;exact⟨by omega,by omega,λh=>by omega,λh=>by omega,by omega,by omega,by omega⟩
theorem nF {ak top:Int} (hc:ak<=9) (re:Re) (h:re.whole ak top=true) (hs:re.size<=256):re.every mv=true:=by revert h hs;refine Re.ind (Q:=λre=>re.whole ak top=true->re.size<=256->re.every mv=true) (λre ih h hs=>?_) re;obtain⟨a1,a2⟩:=(Re.aB re).1 h;have:=Re.lO re.kids;have:=Re.size_eq re;exact(Re.aB re).2 ⟨UP a1 hc (by omega),λk hk=>ih k hk (a2 k hk) (by have:=Re.bL hk;omega)⟩
def vO (p:ic):Int:=if cC p≠0 then cC p else if p.re.bH (List.replicate 10 false) false=false then 10 else if mS p.re=false then 4 else 0
theorem sL (p:ic) (hf:p.re.bC=true):aO Try.prog 19 [aZ p] (i64 (vO p)):=by
 have h1:=Q8 p hf;have h2:cC p=0->aO Try.prog 36 [fv p.re,kV (List.replicate 10 false),bV false] (bV (p.re.bH (List.replicate 10 false) false)):=λhv=>by obtain⟨v1,v2,v3,v4,v5⟩:=db hv;exact Rd p.re hf (nF v4 p.re v5 v1) _ _ (by simp)
 have h3:cC p=0->aO Try.prog 37 [fv p.re] (bV (mS p.re)):=λhv=>by obtain⟨v1,v2,v3,v4,v5⟩:=db hv;exact Ov p.re (nF v4 p.re v5 v1)
 unfold vO;generalize cC p=vr at *;cases p with
 |mk re ak aN =>
 simp only at *;generalize re.bH (List.replicate 10 false) false=kb at *;generalize mS re=sb at *;simp only[GJ,Re.ae re,afR,afU,afQ,afS,ai re,i64,iD,bD,bV,kV,List.replicate]at h1 h2 h3;by_cases hv:vr=0
 ·subst hv;have h2:=h2 rfl;have h3:=h3 rfl;rw[ap (by simp)];cases kb with
  |false =>
   rw[be rfl];refine an Try.func19 rfl Try.ntmps19 Try.results19 rfl 0 15 (by simp) (by simp) ?_;simp only[zX,cQ,dx,dB,dC,dD,gl,ja,jg,jk,mA,eI,eJ,fX,reduceIte,reduceCtorEq,gj,i64,aZ,Re.ae,bV,iD,bD];refine aj h1 rfl rfl ?_;simp only[zX,cQ,dx,dB,dC,dD,gl,ja,jg,jk,mA,eI,eJ,fX,reduceIte,reduceCtorEq,gj,i64,aZ,Re.ae,bV,iD,bD,ne_eq,not_true_eq_false];refine aj h2 (by simp [ah,ah.go]) rfl ?_;simp only[zX,cQ,dx,dB,dC,dD,gl,ja,jg,jk,mA,eI,eJ,fX,reduceIte,reduceCtorEq,gj,i64,aZ,Re.ae,bV,iD,bD,af4];all_goals rfl
  |true =>
   rw[ap (by simp)];cases sb with
   |false =>
    rw[be rfl];refine an Try.func19 rfl Try.ntmps19 Try.results19 rfl 0 15 (by simp) (by simp) ?_;simp only[zX,cQ,dx,dB,dC,dD,gl,ja,jg,jk,mA,eI,eJ,fX,reduceIte,reduceCtorEq,gj,i64,aZ,Re.ae,bV,iD,bD];refine aj h1 rfl rfl ?_;simp only[zX,cQ,dx,dB,dC,dD,gl,ja,jg,jk,mA,eI,eJ,fX,reduceIte,reduceCtorEq,gj,i64,aZ,Re.ae,bV,iD,bD,ne_eq,not_true_eq_false];refine aj h2 (by simp [ah,ah.go]) rfl ?_;simp only[zX,cQ,dx,dB,dC,dD,gl,ja,jg,jk,mA,eI,eJ,fX,reduceIte,reduceCtorEq,gj,i64,aZ,Re.ae,bV,iD,bD,aga];refine aj h3 (by simp [ah,ah.go]) rfl ?_;simp only[zX,cQ,dx,dB,dC,dD,gl,ja,jg,jk,mA,eI,eJ,fX,reduceIte,reduceCtorEq,gj,i64,aZ,Re.ae,bV,iD,bD,af4];all_goals rfl
   |true =>
    rw[ap (by simp)];refine an Try.func19 rfl Try.ntmps19 Try.results19 rfl 0 15 (by simp) (by simp) ?_;simp only[zX,cQ,dx,dB,dC,dD,gl,ja,jg,jk,mA,eI,eJ,fX,reduceIte,reduceCtorEq,gj,i64,aZ,Re.ae,bV,iD,bD];refine aj h1 rfl rfl ?_;simp only[zX,cQ,dx,dB,dC,dD,gl,ja,jg,jk,mA,eI,eJ,fX,reduceIte,reduceCtorEq,gj,i64,aZ,Re.ae,bV,iD,bD,ne_eq,not_true_eq_false];refine aj h2 (by simp [ah,ah.go]) rfl ?_;simp only[zX,cQ,dx,dB,dC,dD,gl,ja,jg,jk,mA,eI,eJ,fX,reduceIte,reduceCtorEq,gj,i64,aZ,Re.ae,bV,iD,bD,aga];refine aj h3 (by simp [ah,ah.go]) rfl ?_;simp only[zX,cQ,dx,dB,dC,dD,gl,ja,jg,jk,mA,eI,eJ,fX,reduceIte,reduceCtorEq,gj,i64,aZ,Re.ae,bV,iD,bD,aga];all_goals rfl
 ·rw[be hv];refine an Try.func19 rfl Try.ntmps19 Try.results19 rfl 0 15 (by simp) (by simp) ?_;simp only[zX,cQ,dx,dB,dC,dD,gl,ja,jg,jk,mA,eI,eJ,fX,reduceIte,reduceCtorEq,gj,i64,aZ,Re.ae,bV,iD,bD];refine aj h1 rfl rfl ?_;simp only[zX,cQ,dx,dB,dC,dD,gl,ja,jg,jk,mA,eI,eJ,fX,reduceIte,reduceCtorEq,gj,i64,aZ,Re.ae,bV,iD,bD,ne_eq,hv,not_false_eq_true];all_goals rfl
section
variable (t:List Int) (root parts:D) (bg nb:Nat) (Bs:List (List Bool)) (b a:Nat)
theorem tk (C:List ay) (tl:List VL.Obj):List.take 6 (wO t root parts bg nb Bs b a C++tl)=wO t root parts bg nb Bs b a C:=rfl
def wS (C:List ay):List VL.Obj:=wO t root parts bg nb Bs b a C
theorem Nd (re:Re) (ho:re.op≠2/\re.op≠3/\re.op≠4/\re.op≠5):xS t root parts bg nb Bs b a re:=by
 obtain⟨o2,o3,o4,o5⟩:=ho;intro k C hC;have fO:=λC=>wU t root parts bg nb Bs b a C;have zF:C.length<=1000000000000:=by omega
 by_cases o1:re.op=1
 ·have hc:re.emit k C=C++[xQ re k]:=by rw[Re.ln,be o1]
  rw[hc];have hp:=λK hk=>uB (t:=t) (root:=root) (parts:=parts) (bg:=bg) (nb:=nb) (Bs:=Bs) (b:=b) (a:=a) (C:=C) zF (xQ re k) (re.bj k) (.ag [i64 1,i64 0,i64 0,i64 0,.cl (.func 57) [] [mB b a,.rf 6 0 0 0]]) (by simp [nO,nO.go,rH,xQ,ay.cells,bY,o1,mB,nB,i64]) (K:=K) hk;generalize C++[xQ re k]=C2 at *;simp only[Re.dV,o1,mA,or_self,or_true,true_or,if_false,if_true,iD,bD,i64]at hp;refine an Try.func56 rfl Try.ntmps56 Try.results56 rfl 6 1278813932664544596687975450732993771492559903679 (af3 6) (by first|decide|(simp [dj];done)) ?_;simp only[zX,cQ,dx,dB,dC,dD,gl,ja,jg,jk,mA,eI,eJ,fX,reduceIte,reduceCtorEq,gj,i64,bV,iD,bD,dj,wO,Re.dV,o1,or_self,or_true,true_or,if_false,if_true];refine hp _ ?_;simp only[zX,cQ,dx,dB,dC,dD,gl,ja,jg,jk,mA,eI,eJ,fX,reduceIte,reduceCtorEq,gj,i64,bV,iD,bD,tk,fO];rfl
 by_cases rO:re.op=11
 ·have hc:re.emit k C=C++[oB re k]:=by rw[Re.ln,ap (by omega),be (by omega)]
  rw[hc];have hp:=λK hk=>uB (t:=t) (root:=root) (parts:=parts) (bg:=bg) (nb:=nb) (Bs:=Bs) (b:=b) (a:=a) (C:=C) zF (oB re k) (re.bj k) (.ag [i64 5,i64 0,i64 0,i64 0,.cl (.func 59) [] [.rf 6 0 0 0,mB b a]]) (by simp [nO,nO.go,rH,oB,ay.cells,bY,rO,mB,nB,i64]) (K:=K) hk;generalize C++[oB re k]=C2 at *;simp only[Re.dV,rO,mA,or_self,or_true,true_or,if_false,if_true,iD,bD,i64]at hp;refine an Try.func56 rfl Try.ntmps56 Try.results56 rfl 6 1278813932664544596687975450732993771492559903679 (af3 6) (by first|decide|(simp [dj];done)) ?_;simp only[zX,cQ,dx,dB,dC,dD,gl,ja,jg,jk,mA,eI,eJ,fX,reduceIte,reduceCtorEq,gj,i64,bV,iD,bD,dj,wO,Re.dV,rO,or_self,or_true,true_or,if_false,if_true];refine hp _ ?_;simp only[zX,cQ,dx,dB,dC,dD,gl,ja,jg,jk,mA,eI,eJ,fX,reduceIte,reduceCtorEq,gj,i64,bV,iD,bD,tk,fO];rfl
 by_cases o7:re.op=7
 ·have hc:re.emit k C=C++[oB re k]:=by rw[Re.ln,ap (by omega),be (by omega)]
  rw[hc];have hp:=λK hk=>uB (t:=t) (root:=root) (parts:=parts) (bg:=bg) (nb:=nb) (Bs:=Bs) (b:=b) (a:=a) (C:=C) zF (oB re k) (re.bj k) (.ag [i64 5,i64 0,i64 0,i64 0,.cl (.func 61) [] [mB b a,.rf 6 0 0 0]]) (by simp [nO,nO.go,rH,oB,ay.cells,bY,o7,mB,nB,i64]) (K:=K) hk;generalize C++[oB re k]=C2 at *;simp only[Re.dV,o7,mA,or_self,or_true,true_or,if_false,if_true,iD,bD,i64]at hp;refine an Try.func56 rfl Try.ntmps56 Try.results56 rfl 6 1278813932664544596687975450732993771492559903679 (af3 6) (by first|decide|(simp [dj];done)) ?_;simp only[zX,cQ,dx,dB,dC,dD,gl,ja,jg,jk,mA,eI,eJ,fX,reduceIte,reduceCtorEq,gj,i64,bV,iD,bD,dj,wO,Re.dV,o7,or_self,or_true,true_or,if_false,if_true];refine hp _ ?_;simp only[zX,cQ,dx,dB,dC,dD,gl,ja,jg,jk,mA,eI,eJ,fX,reduceIte,reduceCtorEq,gj,i64,bV,iD,bD,tk,fO];rfl
 by_cases o8:re.op=8
 ·have hc:re.emit k C=C++[oB re k]:=by rw[Re.ln,ap (by omega),be (by omega)]
  rw[hc];have hp:=λK hk=>uB (t:=t) (root:=root) (parts:=parts) (bg:=bg) (nb:=nb) (Bs:=Bs) (b:=b) (a:=a) (C:=C) zF (oB re k) (re.bj k) (.ag [i64 5,i64 0,i64 0,i64 0,.cl (.func 61) [] [mB b a,.rf 6 0 0 0]]) (by simp [nO,nO.go,rH,oB,ay.cells,bY,o8,mB,nB,i64]) (K:=K) hk;generalize C++[oB re k]=C2 at *;simp only[Re.dV,o8,mA,or_self,or_true,true_or,if_false,if_true,iD,bD,i64]at hp;refine an Try.func56 rfl Try.ntmps56 Try.results56 rfl 6 1278813932664544596687975450732993771492559903679 (af3 6) (by first|decide|(simp [dj];done)) ?_;simp only[zX,cQ,dx,dB,dC,dD,gl,ja,jg,jk,mA,eI,eJ,fX,reduceIte,reduceCtorEq,gj,i64,bV,iD,bD,dj,wO,Re.dV,o8,or_self,or_true,true_or,if_false,if_true];refine hp _ ?_;simp only[zX,cQ,dx,dB,dC,dD,gl,ja,jg,jk,mA,eI,eJ,fX,reduceIte,reduceCtorEq,gj,i64,bV,iD,bD,tk,fO];rfl
 have hc:re.emit k C=C:=by rw[Re.ln,ap o1,ap (by omega),ap o2,ap o3,ap o5,ap o4]
 rw[hc];refine an Try.func56 rfl Try.ntmps56 Try.results56 rfl 6 1278813932664544596687975450732993771492559903679 (af3 6) (by first|decide|(simp [dj];done)) ?_;simp only[zX,cQ,dx,dB,dC,dD,gl,ja,jg,jk,mA,eI,eJ,fX,reduceIte,reduceCtorEq,gj,i64,bV,iD,bD,dj,wO,Re.dV,o1,o2,o3,o4,o5,o7,o8,rO];have hb:=gr 6 bg Bs;have xI:((cG C.length b a C).aw.all λe=>e.all (ah 6))=true:=kj 6 C.length b a (by omega) C;rw[hb,xI];rfl
def nN (re:Re) (k:Nat):VL.Obj:=⟨0,true,1,[[.d (re.bj k)]]⟩
theorem KA (re:Re) (k:Nat):dj b a re k=(dj b a re k).map (aL [0,1,2,3,4,5]):=by simp [dj,aL,aL.go,mB]
theorem Og (re:Re) (k:Nat):ah.go 6 (dj b a re k)=true:=by simp [dj,ah,ah.go,mB]
variable {t root parts bg nb Bs b a}
theorem qy {x:Re} (h:xS t root parts bg nb Bs b a x) (k:Nat) {C:List ay} (hC:C.length+x.gD<=1000000000000) {tl:List VL.Obj}{K:V->List VL.Obj->Prop} (hk:K (.tu []) (wO t root parts bg nb Bs b a (x.emit k C)++tl)) :
  aq Try.prog 56 (dj b a x k) (wO t root parts bg nb Bs b a C++tl) K :=
 Td (h k C hC) (KA b a x k) (Og b a x k) rfl hk
variable (t root parts bg nb Bs b a)
theorem PG (re:Re) (o:re.op=2) (hE:LB re=true) (hK:∀x∈re.kids,xS t root parts bg nb Bs b a x):xS t root parts bg nb Bs b a re:=by
 intro k C hC;obtain⟨q1,q2,q3,_⟩:=qV.1 hE;have fO:=λC=>wU t root parts bg nb Bs b a C;have hc:re.emit k C=Re.dn re.kids k C:=by rw[Re.ln,ap (by omega),ap (by omega),be o]
 have hz:re.gD=Re.c7 re.kids:=by rw[Re.kr,uW,ap (by omega),be o]
 rw[hz]at hC;rw[hc];refine an Try.func56 rfl Try.ntmps56 Try.results56 rfl 6 1278813932664544596687975450732993771492559903679 (af3 6) (by first|decide|(simp [dj];done)) ?_;simp only[zX,cQ,dx,dB,dC,dD,gl,ja,jg,jk,mA,eI,eJ,fX,reduceIte,reduceCtorEq,gj,i64,bV,iD,bD,dj,wO,Re.dV,o,or_self,if_false,Re.oo];refine au (λn e s=>∃i:Nat,n=re.kids.length-i/\i<=re.kids.length/\e 3=.rf 4 0 0 0/\e 46=.d (.sl (Re.dH re.kids k))/\e 47=i64 re.kids.length/\e 48=i64 i/\s=wS t root parts bg nb Bs b a (Re.dn (re.kids.take i) k C)++[nN re k])
  ⟨_,_,_,br.refl,0,rfl,by omega,rfl,rfl,rfl,rfl,by simp [wS,wO,Re.dn,nN,Re.dV,o,iD,bD]⟩ ?_
 rintro n e s ⟨i,rfl,hi,h3,Zc,YD,Wk,rfl⟩;rcases agi i re.kids.length with az|fI
 ·obtain⟨x,hx⟩:∃x,re.kids[i]?=some x:=⟨_,afP az⟩
  have hm:=afW hx;have aC:(i:Int)<(re.kids.length:Int):=by omega
  have hi0:(0:Int)<=(i:Int):=by omega
  have rR:=vB re.kids k i x hx;have fF:Re.c7 (re.kids.take i)+x.gD<=Re.c7 re.kids:=by
   have h1:re.kids=re.kids.take (i+1)++re.kids.drop (i+1):=(ahk _ _).symm;have h2:Re.c7 re.kids=Re.c7 (re.kids.take (i+1))+Re.c7 (re.kids.drop (i+1)):=by rw[<- gR,<- h1]
   rw[h2,aR hx,gR];simp only[Re.c7];omega
  have hw:=λK hk=>qy (hK x hm) (k+Re.aD (re.kids.take i)) (C:=Re.dn (re.kids.take i) k C) (by rw[Re.uu];omega) (tl:=[nN re k]) (K:=K) hk;rw[<- CG,<- aR hx]at hw;generalize Re.dn (re.kids.take i) k C=C1 at *;generalize hC2:Re.dn (re.kids.take (i+1)) k C=C2 at *;unfold dj wO at hw;simp only[zX,cQ,dx,dB,dC,dD,gl,ja,jg,jk,mA,eI,eJ,fX,reduceIte,reduceCtorEq,gj,i64,bV,iD,bD,wS,wO,h3,Zc,YD,Wk,aC,hi0,az,Re.oo,afT,rR,afQ,afS];refine hw _ ?_;simp only[zX,cQ,dx,dB,dC,dD,gl,ja,jg,jk,mA,eI,eJ,fX,reduceIte,reduceCtorEq,gj,i64,bV,iD,bD,h3,Zc,YD,Wk];refine⟨re.kids.length-(i+1),_,_,by omega,br.refl,i+1,rfl,az,?_,?_,?_,?_,by rw[hC2]⟩ <;> (try simp only[zU,gj,cQ,dx,eI,reduceIte])
  ·exact h3
  ·exact Zc
  ·exact YD
  ·rw[bd _ (by omega)];rfl
 ·have cV:i=re.kids.length:=by omega
  subst cV;rw[agj];simp only[zX,cQ,dx,dB,dC,dD,gl,ja,jg,jk,mA,eI,eJ,fX,reduceIte,reduceCtorEq,gj,i64,bV,iD,bD,wS,h3,Zc,YD,Wk,agO,tk,fO];rfl
theorem Ph (re x:Re) (o:re.op=5) (hE:LB re=true) (hk:re.kids=[x]) (hK:xS t root parts bg nb Bs b a x):xS t root parts bg nb Bs b a re:=by
 intro k C hC;obtain⟨_,_,_,_,_,_,_,n0,n1⟩:=qV.1 hE;have fO:=λC=>wU t root parts bg nb Bs b a C;have hc:re.emit k C=x.emit k (C++[jE (2*re.n-2)])++[jE (2*re.n-1)]:=by rw[Re.ln,ap (by omega),ap (by omega),ap (by omega),ap (by omega),be o,hk];rfl
 have hz:re.gD=x.gD+2:=by rw[Re.kr,uW,ap (by omega),ap (by omega),ap (by omega),be o,hk];simp [Re.c7]
 rw[hz]at hC;rw[hc];have WA:IntKind.i64.wrap (2*re.n)=2*re.n:=bd _ (by omega);have wn2:IntKind.i64.wrap (2*re.n-2)=2*re.n-2:=bd _ (by omega);have wn3:IntKind.i64.wrap (2*re.n-1)=2*re.n-1:=bd _ (by omega);have y3:=λK hk=>kf (t:=t) (root:=root) (parts:=parts) (bg:=bg) (nb:=nb) (Bs:=Bs) (b:=b) (a:=a) (C:=C) (by omega) 4 0 0 (2*re.n-2) (tl:=[nN re k]) (K:=K) hk;have hw:=λK hk=>qy hK k (C:=C++[jE (2*re.n-2)]) (by rw[af7,agv];omega) (tl:=[nN re k]) (K:=K) hk;have CZ:(x.emit k (C++[jE (2*re.n-2)])).length<=1000000000000:=by rw[Re.gi,af7,agv];omega
 have As:=λK hk=>kf (t:=t) (root:=root) (parts:=parts) (bg:=bg) (nb:=nb) (Bs:=Bs) (b:=b) (a:=a) (C:=x.emit k (C++[jE (2*re.n-2)])) CZ 4 0 0 (2*re.n-1) (tl:=[nN re k]) (K:=K) hk;rw[show (⟨4,0,0,2*re.n-2,none⟩:ay)=jE (2*re.n-2) from rfl]at y3;rw[show (⟨4,0,0,2*re.n-1,none⟩:ay)=jE (2*re.n-1) from rfl]at As;generalize x.emit k (C++[jE (2*re.n-2)])++[jE (2*re.n-1)]=C3 at *;generalize x.emit k (C++[jE (2*re.n-2)])=C2 at *;generalize C++[jE (2*re.n-2)]=C1 at *;have Gb:Re.dH re.kids k=[[x.bj k]]:=by rw[hk];rfl
 have cB:re.bj k=.el [iD 5,.sl (re.set.map aV),.sl (re.kids.map Re.cells),iD re.mn,iD re.mx,iD re.mode,iD re.n,bD re.neg,.sl [[x.bj k]],iD k]:=by rw[Re.dV,ap (by omega),ag0,Gb,o]
 have hq:([[x.bj k]]:List (List D))[0]?=some [x.bj k]:=rfl;unfold nN at y3 As hw;unfold dj at hw ⊢;rw[cB]at y3 As hw ⊢;generalize x.bj k=xd at *;simp only[iD,bD,i64]at y3 As hw;refine an Try.func56 rfl Try.ntmps56 Try.results56 rfl 6 1278813932664544596687975450732993771492559903679 (af3 6) (by first|decide|(simp [dj];done)) ?_;simp only[zX,cQ,dx,dB,dC,dD,gl,ja,jg,jk,mA,eI,eJ,fX,reduceIte,reduceCtorEq,gj,i64,bV,iD,bD,wO,afZ,af0,afX];refine ar mix [9] [] (by rfl) ?_;simp only[zX,cQ,dx,dB,dC,dD,gl,ja,jg,jk,mA,eI,eJ,fX,reduceIte,reduceCtorEq,gj,i64,bV,iD,bD,WA,wn2];refine e8 (y3 _ ⟨rfl,rfl⟩) ?_;simp only[zX,cQ,dx,dB,dC,dD,gl,ja,jg,jk,mA,eI,eJ,fX,reduceIte,reduceCtorEq,gj,i64,bV,iD,bD,wO,afQ,afS];refine ar mix [7] [] (by rfl) ?_;simp only[zX,cQ,dx,dB,dC,dD,gl,ja,jg,jk,mA,eI,eJ,fX,reduceIte,reduceCtorEq,gj,i64,bV,iD,bD,afZ,af0,afX,hq];refine⟨by decide,?_⟩;refine e8 (hw _ ⟨rfl,rfl⟩) ?_;simp only[zX,cQ,dx,dB,dC,dD,gl,ja,jg,jk,mA,eI,eJ,fX,reduceIte,reduceCtorEq,gj,i64,bV,iD,bD,wO,afQ,afS];refine ar mix [9] [] (by rfl) ?_;simp only[zX,cQ,dx,dB,dC,dD,gl,ja,jg,jk,mA,eI,eJ,fX,reduceIte,reduceCtorEq,gj,i64,bV,iD,bD,WA,wn3];refine e8 (As _ ⟨rfl,rfl⟩) ?_;simp only[zX,cQ,dx,dB,dC,dD,gl,ja,jg,jk,mA,eI,eJ,fX,reduceIte,reduceCtorEq,gj,i64,bV,iD,bD,tk,fO];rfl
end
section
variable (t:List Int) (root parts:D) (bg nb:Nat) (Bs:List (List Bool)) (b a:Nat)
omit t root parts bg nb Bs b a in
theorem Mo:∀(l:List Re) (k:Nat) (C:List ay) (J:List Nat),∀x∈(iB l k C J).2,x∈J\/x<(iB l k C J).1.length
 |[],_,_,_,x,h=>.inl h
 |y::l,k,C,J,x,h=>by
  have e:iB (y::l) k C J=iB l (k+y.looks) (yn (y.emit k (C++[eT 0 0])++[lZ 0]) C.length ((C.length:Int)+1) (((y.emit k (C++[eT 0 0])).length:Int)+1)) (J++[(y.emit k (C++[eT 0 0])).length]):=rfl;rw[e]at h ⊢;have hl:=(xw l (k+y.looks) (yn (y.emit k (C++[eT 0 0])++[lZ 0]) C.length ((C.length:Int)+1) (((y.emit k (C++[eT 0 0])).length:Int)+1)) (J++[(y.emit k (C++[eT 0 0])).length])).1;rcases Mo l _ _ _ x h with h|h
  ·rcases List.mem_append.1 h with h|h
   ·exact .inl h
   ·rw[List.mem_singleton]at h;rw[nm,af7,agv]at hl;exact .inr (by omega)
  ·exact .inr h
def Xi (C:List ay) (re:Re) (k g:Nat) (J:List Nat):List VL.Obj:=wO t root parts bg nb Bs b a C++[nN re k,bo g J]
def B6 (C:List ay) (re:Re) (k g:Nat) (J:List Nat):List VL.Obj:=wO t root parts bg nb Bs b a C++[nN re k,bo g J]
theorem Pj (re:Re) (l:List Re) (z:Re) (o:re.op=3) (hE:LB re=true) (hk:re.kids=l++[z]) (hK:∀x∈re.kids,xS t root parts bg nb Bs b a x):xS t root parts bg nb Bs b a re:=by
 intro k C hC;obtain⟨_,_,q3,_⟩:=qV.1 hE;have fO:=λC=>wU t root parts bg nb Bs b a C;have hc:re.emit k C=(iB l k C []).2.foldl (xO (z.emit (k+Re.aD l) (iB l k C []).1).length) (z.emit (k+Re.aD l) (iB l k C []).1):=by rw[Re.ln,ap (by omega),ap (by omega),ap (by omega),be o,hk,G0]
 have wF:re.kids.length=l.length+1:=by rw[hk];simp
 have hz:re.gD=Re.c7 l+z.gD+2*l.length:=by rw[Re.kr,uW,ap (by omega),ap (by omega),be o,wF,hk,gR];simp [Re.c7]
 rw[hz]at hC;rw[hc];have Wp:∀(i:Nat) (x:Re),re.kids[i]?=some x->(Re.dH re.kids k)[i]?=some [x.bj (k+Re.aD (re.kids.take i))]:=λi x h=>vB re.kids k i x h;have Gb:=Re.oo re.kids k;have cB:re.bj k=.el [iD 3,.sl (re.set.map aV),.sl (re.kids.map Re.cells),iD re.mn,iD re.mx,iD re.mode,iD re.n,bD re.neg,.sl (Re.dH re.kids k),iD k]:=by rw[Re.dV,ap (by omega),ag0,o]
 have hw0:IntKind.i64.wrap ((re.kids.length:Int)-1)=(l.length:Int):=by rw[wF];rw[bd _ (by omega)];omega
 have nr:nN re k=⟨0,true,1,[[.d (re.bj k)]]⟩:=rfl;unfold dj;rw[cB]at nr ⊢;generalize hND:Re.dH re.kids k=ND at *;simp only[iD,bD]at nr;have vu:(l.length:Int)<=(ND.length:Int):=by omega
 have CZ:l.length<=ND.length:=by omega
 have rT:(0:Int)<=(l.length:Int):=by omega
 refine an Try.func56 rfl Try.ntmps56 Try.results56 rfl 6 1278813932664544596687975450732993771492559903679 (af3 6) (by first|decide|(simp [dj];done)) ?_;simp only[zX,cQ,dx,dB,dC,dD,gl,ja,jg,jk,mA,eI,eJ,fX,reduceIte,reduceCtorEq,gj,i64,bV,iD,bD,wO,Gb,hw0,rT,vu,CZ,afT,agN];refine⟨by omega,?_⟩;refine au (λn e s=>∃(i g:Nat),n=l.length-i/\i<=l.length/\e 1=.rf 3 0 0 0/\e 3=.rf 4 0 0 0/\e 4=.rf 2 0 0 0/\e 5=.rf 6 0 0 0/\e 8=.so 7 g 0 i/\e 9=i64 l.length/\e 69=.d (.sl (ND.take l.length))/\e 70=i64 l.length/\e 71=i64 i/\s=Xi t root parts bg nb Bs b a (iB (l.take i) k C []).1 re k g (iB (l.take i) k C []).2)
  ⟨_,_,_,.DD (eE 8 1 rfl),0,0,rfl,by omega,rfl,rfl,rfl,rfl,rfl,rfl,rfl,?_,rfl,by rw[Xi,nr];rfl⟩ ?_
 ·(try simp only[zU,gj,cQ,dx,eI,reduceIte])
  have:min ((l.length:Int)-0).toNat re.kids.length=l.length:=by omega
  rw[this];rfl
 rintro n e s ⟨i,g,rfl,hi,h1,h3,h4,h5,h8,h9,RO,RR,R9,rfl⟩;have Wy:=(xw (l.take i) k C []).2;have WD:=(xw (l.take i) k C []).1;rw[af0,afX]at Wy;rcases agi i l.length with az|fI
 ·obtain⟨x,hx⟩:∃x,l[i]?=some x:=⟨_,afP az⟩
  have hxk:re.kids[i]?=some x:=by rw[hk,af2 az];exact hx
  have hm:x∈re.kids:=afW hxk;have aC:(i:Int)<(l.length:Int):=by omega
  have hi0:(0:Int)<=(i:Int):=by omega
  have rR:=Wp i x hxk;have EC:re.kids.take i=l.take i:=by rw[hk,List.take_append_of_le_length (by omega)]
  rw[EC]at rR;have Z0:(ND.take l.length)[i]?=some [x.bj (k+Re.aD (l.take i))]:=by rw[List.getElem?_take_of_lt az];exact rR
  have fF:Re.c7 (l.take i)+x.gD<=Re.c7 l:=by
   have h1:l=l.take (i+1)++l.drop (i+1):=(ahk _ _).symm;have h2:Re.c7 l=Re.c7 (l.take (i+1))+Re.c7 (l.drop (i+1)):=by rw[<- gR,<- h1]
   rw[h2,aR hx,gR];simp only[Re.c7];omega
  have AJ:=DP (l.take i) x k C [];rw[<- aR hx]at AJ;rw[agN]at WD Wy;rw[show Xi t root parts bg nb Bs b a (iB (l.take i) k C []).1 re k g (iB (l.take i) k C []).2=wO t root parts bg nb Bs b a (iB (l.take i) k C []).1++[nN re k,bo g (iB (l.take i) k C []).2] from rfl];generalize abb:iB (l.take (i+1)) k C []=ST2 at *;generalize iB (l.take i) k C []=ST at *;obtain⟨C1,J⟩:=ST;simp only at WD Wy ⊢;simp only[iB]at AJ;have hw:=λK hk=>qy (hK x hm) (k+Re.aD (l.take i)) (C:=C1++[eT 0 0]) (by rw[af7,agv];omega) (tl:=[nN re k,bo g J]) (K:=K) hk;have y3:=λK hk=>kf (t:=t) (root:=root) (parts:=parts) (bg:=bg) (nb:=nb) (Bs:=Bs) (b:=b) (a:=a) (C:=C1) (by omega) 2 0 0 0 (tl:=[nN re k,bo g J]) (K:=K) hk;have S8:(x.emit (k+Re.aD (l.take i)) (C1++[eT 0 0])).length=C1.length+1+x.gD:=by rw[Re.gi,af7,agv]
  have As:=λK hk=>kf (t:=t) (root:=root) (parts:=parts) (bg:=bg) (nb:=nb) (Bs:=Bs) (b:=b) (a:=a) (C:=x.emit (k+Re.aD (l.take i)) (C1++[eT 0 0])) (by omega) 3 0 0 0 (tl:=[nN re k,bo g J]) (K:=K) hk;rw[show (⟨2,0,0,0,none⟩:ay)=eT 0 0 from rfl]at y3;rw[show (⟨3,0,0,0,none⟩:ay)=lZ 0 from rfl]at As;unfold dj at hw;generalize x.bj (k+Re.aD (l.take i))=xd at *;generalize x.emit (k+Re.aD (l.take i)) (C1++[eT 0 0])=C3 at *;have Xw:(C3++[lZ 0]).length=C3.length+1:=by simp
  generalize C3++[lZ 0]=C4 at *;generalize C1++[eT 0 0]=C2 at *;have w1:IntKind.i64.wrap ((C1.length:Int)+1)=(C1.length:Int)+1:=bd _ (by omega);obtain⟨y,hy⟩:∃y,C4[C1.length]?=some y:=⟨_,afP (by omega)⟩
  have c0:(0:Int)<=(C1.length:Int):=by omega
  have c1:(C1.length:Int)<(C4.length:Int):=by omega
  have c2:C1.length<C4.length:=by omega
  have g1:(cG C4.length b a C4).g=C4.length:=rfl;have g2:(cG C4.length b a C4).sz=5:=rfl;have g3:(cG C4.length b a C4).aw=C4.map (ay.cells b a):=rfl;have g4:(cG C4.length b a C4).live=true:=rfl;simp only[zX,cQ,dx,dB,dC,dD,gl,ja,jg,jk,mA,eI,eJ,fX,reduceIte,reduceCtorEq,gj,i64,bV,iD,bD,wO,h1,h3,h4,h5,h8,h9,RO,RR,R9,aC,hi0,az,afT,Z0,agN,Nat.min_eq_left CZ,afQ,afS];refine y3 _ ?_;simp only[zX,cQ,dx,dB,dC,dD,gl,ja,jg,jk,mA,eI,eJ,fX,reduceIte,reduceCtorEq,gj,i64,bV,iD,bD,wO,h1,h3,h4,h5,h8,h9,RO,RR,R9,afQ,afS];refine hw _ ?_;simp only[zX,cQ,dx,dB,dC,dD,gl,ja,jg,jk,mA,eI,eJ,fX,reduceIte,reduceCtorEq,gj,i64,bV,iD,bD,wO,h1,h3,h4,h5,h8,h9,RO,RR,R9,afQ,afS];refine As _ ?_;simp only[zX,cQ,dx,dB,dC,dD,gl,ja,jg,jk,mA,eI,eJ,fX,reduceIte,reduceCtorEq,gj,i64,bV,iD,bD,wO,bo,h1,h3,h4,h5,h8,h9,RO,RR,R9,afQ,afS,afN];refine⟨λe he=>by rw[List.mem_singleton.1 he];rfl,⟨by omega,by omega⟩,?_⟩;refine ar mix [] [(8,[5],[]),(9,[5],[]),(10,[5],[5]),(11,[5],[]),(12,[5],[]),(13,[5],[5])] (by rfl) ?_;simp only[zX,cQ,dx,dB,dC,dD,gl,ja,jg,jk,mA,eI,eJ,fX,reduceIte,reduceCtorEq,gj,i64,bV,iD,bD,h1,h3,h4,h5,h8,h9,RO,RR,R9,bU,aP,oh,c0,c1,c2,g1,g2,g3,g4,hy,w1,afT,afX,afN,afO,afV,ay.cells];have e1:∀v,((C4.map (ay.cells b a)).set C1.length v)[C1.length]?=some v:=λv=>agc (by simpa using c2);have e2:((C4.map (ay.cells b a)).set C1.length [V.d (D.sc (Value.int IntKind.i64 y.op)),V.d (D.sc (Value.int IntKind.i64 ((C1.length:Int)+1))),V.d (D.sc (Value.int IntKind.i64 y.y)),V.d (D.sc (Value.int IntKind.i64 y.n)),bY b a y.node]).set C1.length [V.d (D.sc (Value.int IntKind.i64 y.op)),V.d (D.sc (Value.int IntKind.i64 ((C1.length:Int)+1))),V.d (D.sc (Value.int IntKind.i64 C4.length)),V.d (D.sc (Value.int IntKind.i64 y.n)),bY b a y.node]=(yn C4 C1.length ((C1.length:Int)+1) C4.length).map (ay.cells b a):=by
   have VZ:eV C4 C1.length=y:=by unfold eV;rw[af9,hy];rfl
   rw[List.set_set,yn,ahg,VZ];rfl
  have e3:List.take i (J.map λ(x:Nat)=>[V.d (D.sc (Value.int IntKind.i64 (x:Int)))])=J.map λ(x:Nat)=>[V.d (D.sc (Value.int IntKind.i64 (x:Int)))]:=af1 (by rw[afN];omega);simp only[e1,ags,agD,agZ,agH,afQ,afS,e2,e3];refine⟨by simp,l.length-(i+1),_,_,by omega,br.refl,i+1,g+1,rfl,az,?_,?_,?_,?_,?_,?_,?_,?_,?_,?_⟩ <;> (try simp only[zU,gj,cQ,dx,eI,reduceIte])
  ·exact h1
  ·exact h3
  ·exact h4
  ·exact h5
  ·exact h9
  ·exact RO
  ·exact RR
  ·rw[bd _ (by omega)];rfl
  ·rw[abb,AJ,Xw];simp only[Xi,wO,bo,oh,nm,Xw,aha,afR,afU,afQ,afS,i64];rfl
 ·have cV:i=l.length:=by omega
  subst cV;have hzk:re.kids[l.length]?=some z:=by rw[hk];simp
  have hm:z∈re.kids:=afW hzk;have rR:=Wp l.length z hzk;have EC:re.kids.take l.length=l:=by rw[hk];simp
  rw[EC]at rR;have zH:=Mo l k C [];rw[agj]at *;rw[show Xi t root parts bg nb Bs b a (iB l k C []).1 re k g (iB l k C []).2=wO t root parts bg nb Bs b a (iB l k C []).1++[nN re k,bo g (iB l k C []).2] from rfl];generalize iB l k C []=ST at *;obtain⟨C1,J⟩:=ST;simp only at WD Wy zH ⊢;have hw:=λK hk=>qy (hK z hm) (k+Re.aD l) (C:=C1) (by omega) (tl:=[nN re k,bo g J]) (K:=K) hk;have qX:=Re.gi z (k+Re.aD l) C1;unfold dj at hw;generalize z.bj (k+Re.aD l)=xd at *;generalize z.emit (k+Re.aD l) C1=C2 at *;have hJb:∀x∈J,x<C2.length:=λx hx=>by have:=(zH x hx).resolve_left (by simp);omega
  have S8:(l.length:Int)<(ND.length:Int):=by omega
  have Y5:l.length<ND.length:=by omega
  rw[nr]at hw ⊢;simp only[zX,cQ,dx,dB,dC,dD,gl,ja,jg,jk,mA,eI,eJ,fX,reduceIte,reduceCtorEq,gj,i64,bV,iD,bD,wO,h1,h3,h4,h5,h8,h9,RO,RR,R9,agO,afQ,afS];refine ar mix [8] [] (by rfl) ?_;simp only[zX,cQ,dx,dB,dC,dD,gl,ja,jg,jk,mA,eI,eJ,fX,reduceIte,reduceCtorEq,gj,i64,bV,iD,bD,wO,h1,h3,h4,h5,h8,h9,RO,RR,R9,rT,Gb,S8,Y5,afT,rR,afQ,afS];refine⟨by omega,?_⟩;refine e8 (hw _ ⟨rfl,rfl⟩) ?_;clear hw zH;rw[<- nr];have ju:(B6 t root parts bg nb Bs b a ((J.take 0).foldl (xO C2.length) C2) re k g J)=wO t root parts bg nb Bs b a C2++[nN re k,bo g J]:=rfl;simp only[zX,cQ,dx,dB,dC,dD,gl,ja,jg,jk,mA,eI,eJ,fX,reduceIte,reduceCtorEq,gj,i64,bV,iD,bD,h1,h3,h4,h5,h8,h9,RO,RR,R9];refine au (λn e s=>∃j:Nat,n=l.length-j/\j<=l.length/\e 4=.rf 2 0 0 0/\e 109=.so 7 g 0 l.length/\e 110=i64 l.length/\e 111=i64 j/\s=B6 t root parts bg nb Bs b a ((J.take j).foldl (xO C2.length) C2) re k g J)
   ⟨_,_,_,br.refl,0,rfl,by omega,by first|exact h4|(simp only[zU,gj,cQ,dx,eI,reduceIte];done)|(simp only[zU,gj,cQ,dx,eI,reduceIte];exact h4),by first|exact h8|(simp only[zU,gj,cQ,dx,eI,reduceIte];done)|(simp only[zU,gj,cQ,dx,eI,reduceIte];exact h8),rfl,rfl,rfl⟩ ?_
  clear h1 h3 h4 h5 h8 h9 RO RR R9;rintro n e s ⟨j,rfl,hj,h4,V3,UG,Yr,rfl⟩;have XC:((J.take j).foldl (xO C2.length) C2).length=C2.length:=FE _ _ _;rcases agi j l.length with az|fI
  ·obtain⟨x,hx⟩:∃x,J[j]?=some x:=⟨_,afP (by omega)⟩
   have hxb:=hJb x (afW hx);have aC:(j:Int)<(l.length:Int):=by omega
   have RG:(0:Int)<=(j:Int):=by omega
   have AJ:(J.take (j+1)).foldl (xO C2.length) C2=xO C2.length ((J.take j).foldl (xO C2.length) C2) x:=by rw[aR hx,List.foldl_append];rfl
   rw[show B6 t root parts bg nb Bs b a ((J.take j).foldl (xO C2.length) C2) re k g J=wO t root parts bg nb Bs b a ((J.take j).foldl (xO C2.length) C2)++[nN re k,bo g J] from rfl];generalize (J.take j).foldl (xO C2.length) C2=Dc at *;have g1:(cG Dc.length b a Dc).g=Dc.length:=rfl;have g2:(cG Dc.length b a Dc).sz=5:=rfl;have g3:(cG Dc.length b a Dc).aw=Dc.map (ay.cells b a):=rfl;have g4:(cG Dc.length b a Dc).live=true:=rfl;obtain⟨y,hy⟩:∃y,Dc[x]?=some y:=⟨_,afP (by omega)⟩
   have R4:x<Dc.length:=by omega
   have Qj:(x:Int)<(Dc.length:Int):=by omega
   have hx2:(0:Int)<=(x:Int):=by omega
   have VZ:eV Dc x=y:=by unfold eV;rw[af9,hy];rfl
   have e2:(Dc.map (ay.cells b a)).set x [V.d (D.sc (Value.int IntKind.i64 y.op)),V.d (D.sc (Value.int IntKind.i64 Dc.length)),V.d (D.sc (Value.int IntKind.i64 y.y)),V.d (D.sc (Value.int IntKind.i64 y.n)),bY b a y.node]=(xO C2.length Dc x).map (ay.cells b a):=by rw[xO,yn,ahg,VZ,XC];rfl
   have aaO:j<J.length:=by omega
   simp only[zX,cQ,dx,dB,dC,dD,gl,ja,jg,jk,mA,eI,eJ,fX,reduceIte,reduceCtorEq,gj,i64,bV,iD,bD,wO,bo,oh,h4,V3,UG,Yr,aC,RG,aaO,az,hx,R4,Qj,hx2,hy,g1,g2,g3,g4,afT,afX,afN,afO,afV,ay.cells,e2,afQ,afS];refine⟨l.length-(j+1),_,_,by omega,br.refl,j+1,rfl,az,?_,?_,?_,?_,?_⟩ <;> (try simp only[zU,gj,cQ,dx,eI,reduceIte])
   ·exact h4
   ·exact V3
   ·exact UG
   ·rw[bd _ (by omega)];rfl
   ·rw[AJ,<- XC];simp only[B6,wO,bo,oh,cG,K9,afQ,afS,i64]
  ·have KR:j=l.length:=by omega
   subst KR;rw[af1 (by omega)];simp only[zX,cQ,dx,dB,dC,dD,gl,ja,jg,jk,mA,eI,eJ,fX,reduceIte,reduceCtorEq,gj,i64,bV,iD,bD,h4,V3,UG,Yr,agO,B6,tk,fO];rfl
end
end Go.Proofs.Ytfmdmlfhigocaaa
