/- A part of the proof (F49 O23 O15 O16). -/
import Derived.Test.YtfmdmlfhigocaaaOF34
import Derived.Test.YtfmdmlfhigocaaaOF38
import Derived.Test.YtfmdmlfhigocaaaOF41
set_option linter.unusedSimpArgs false
set_option linter.unusedVariables false
set_option maxRecDepth 100000
set_option maxHeartbeats 80000000
set_option linter.unusedSimpArgs false
set_option linter.unusedVariables false
namespace Go.Proofs.Ytfmdmlfhigocaaa
open Go.VL Go.Proofs.Try
theorem Cr (p:jl) (g:Bool) (hg:g=(decide (0<=p.ai)&&decide (p.ai<=9))) :
  (if (p.re.vw p.ai (fB p.aU) 1 0 g).1=true then (if (p.re.vw p.ai (fB p.aU) 1 0 g).2.2=true then (0:Int) else 1) else 4)=dQ p:=by
 obtain⟨a1,_,_,a4⟩:=Ok p.ai (fB p.aU) p.re 1 0 g (by omega) (by omega)
 by_cases h:(p.re.vw p.ai (fB p.aU) 1 0 g).1=true
 ·have h1:=a1.1 h
  have hv:dQ p=if p.ai<0\/9<p.ai\/p.re.whole p.ai (fB p.aU)=false then 1 else 0:=by
   unfold dQ;rw[if_neg (by omega)]
  rw[if_pos h,hv,(a4 h).2,hg]
  cases hw:p.re.whole p.ai (fB p.aU)
  ·rw[if_neg (by simp),if_pos (.inr (.inr rfl))]
  ·by_cases hc:p.ai<0\/9<p.ai
   ·rw[if_neg (by simp only[Bool.and_true,Bool.and_eq_true,decide_eq_true_eq];omega),if_pos (by omega)]
   ·rw[if_pos (by simp only[Bool.and_true,Bool.and_eq_true,decide_eq_true_eq];omega),if_neg (by rintro (h'|h'|h') <;> first|omega|cases h')]
 ·have hh:¬(0+(p.re.size:Int)<=256/\1+p.re.depth-1<=24):=fun hh=>h (a1.2 hh)
  have hv:dQ p=4:=by
   unfold dQ;rw[if_pos (by omega)]
  rw[if_neg h,hv]
theorem L2 (p:jl) (hf:p.re.dG=true):ba prog 35 [.ag ((Cy p).map .d)] (i64 (dQ p)):=by
 have Wp:=Ma p.aU
 have VU:fB p.aU<=1114111:=by unfold fB;split <;> omega
 have hk:∀g:Bool,g=(decide (0<=p.ai)&&decide (p.ai<=9))->aq prog 67 [.d (.el (Cy p)),i64 1,.rf 0 0 0 0,.rf 1 0 0 0,.d (.el (Cy p)),.rf 3 0 0 0,.rf 4 0 0 0] [lR 0,gO g,nP false p,lR (fB p.aU),gG 67]
   fun v s=>v=bV (p.re.vw p.ai (fB p.aU) 1 0 g).1/\s=[lR (p.re.vw p.ai (fB p.aU) 1 0 g).2.1,gO (p.re.vw p.ai (fB p.aU) 1 0 g).2.2,nP false p,lR (fB p.aU),gG 67]:=by
  intro g _
  have:=JE p (fB p.aU) VU p.re hf 1 0 g false (.d (.el (Cy p))) (.inr rfl) (by omega) (by omega) (by omega) (by omega)
  exact IU (ex:=[iD p.ai,bD p.aU]) this
 have fin:=fun g hg=>Cr p g hg
 generalize hG:(decide (0<=p.ai)&&decide (p.ai<=9))=G at hk fin
 have hk:=hk G rfl
 have fin:=fin G rfl
 generalize p.re.vw p.ai (fB p.aU) 1 0 G=R at hk fin
 obtain⟨R1,R2,R3⟩:=R
 simp only at fin
 rw[<- fin]
 simp only[nP,gk p,iD,bD,bV,i64,List.map_cons,List.map_nil]at hk Wp ⊢
 refine an func35 rfl ntmps35 results35 rfl 0 127 (by simp) (by simp) ?_
 simp only[zX,simprocAttr,i64,iD,bD,List.map_cons,List.map_nil]
 by_cases g1:0<=p.ai
 all_goals
  try (by_cases g2:p.ai<=9)
 all_goals
  first
   |(have SC:G=true:=by rw[<- hG,decide_eq_true g1,decide_eq_true g2];rfl
     subst SC
     simp only[zX,simprocAttr,i64,iD,bD,g1,g2])
   |(have SC:G=false:=by rw[<- hG,decide_eq_true g1,decide_eq_false g2];rfl
     subst SC
     simp only[zX,simprocAttr,i64,iD,bD,g1,g2])
   |(have SC:G=false:=by rw[<- hG,decide_eq_false g1];rfl
     subst SC
     simp only[zX,simprocAttr,i64,iD,bD,g1])
  refine al Wp rfl rfl ?_
  simp only[zX,simprocAttr,i64,iD,bD]
  refine bA [0] rfl ?_
  refine dk [1,2,0,3,4] hk (by decide) rfl rfl rfl (by simp [ah,ah.go]) (by simp [aQ,lR,gO,nP,gG,ah,ah.go,i64,bV]) rfl ?_
  cases R1
  ·simp only[zX,simprocAttr,i64,ca,bS,aP,aJ,aJ.go,lR,gO,nP,gk p,gG,bV,aH,iD,bD]
   all_goals first|exact⟨rfl,rfl⟩|exact⟨rfl,trivial⟩|rfl|trivial|(rw[aj];rfl)
  ·cases R3
   ·simp only[zX,simprocAttr,i64,ca,bS,aP,aJ,aJ.go,lR,gO,nP,gk p,gG,bV,aH,iD,bD]
    all_goals first|exact⟨rfl,rfl⟩|exact⟨rfl,trivial⟩|rfl|trivial|(rw[aj];rfl)
   ·simp only[zX,simprocAttr,i64,ca,bS,aP,aJ,aJ.go,lR,gO,nP,gk p,gG,bV,aH,iD,bD]
    all_goals first|exact⟨rfl,rfl⟩|exact⟨rfl,trivial⟩|rfl|trivial|(rw[aj];rfl)
theorem JP (re:Re) (hs:re.every nt=true):ba Try.prog 37 [jW re] (bV (pM re)):=by
 have hl:=yx re hs
 have XS:=xU re
 have hp:=fun K hk=>dk [1] (Mj re hs) (by decide) rfl (s:=[aF re,⟨0,true,1,[[.cl (.func 70) [] [.rf 1 0 0 0]]]⟩]) (args:=[jW re,.rf 1 0 0 0]) rfl (by rw[aj];simp [aJ,aJ.go,i64,bV]) (by rw[aj];simp [ah,ah.go,i64,bV]) (by rfl) (r':=bV (re.every BL)) rfl (K:=K) hk
 have w1:IntKind.i64.wrap (1+il re)=1+il re:=br _ (by omega)
 unfold pM
 rw[aj]at hl
 simp only[aj re,i64,aF,Re.ae re,List.map_cons,List.map_nil,iD,bD]at hl hp
 generalize il re=y at *
 by_cases c:1+y<=8192
 ·rw[decide_eq_true c,Bool.true_and]
  refine an Try.func37 rfl Try.ntmps37 Try.results37 rfl 0 15 (by simp) (by simp) ?_
  simp only[zX,Nat.reduceShiftRight,Nat.reduceMod,Nat.reduceLT,Nat.reduceMul,Nat.reduceSub,Int.reduceToNat,Int.reduceNeg,Int.reduceLT,Int.reduceLE,Int.reduceEq,Nat.reduceEqDiff,Nat.reduceAdd,Nat.reduceLeDiff,reduceIte,reduceCtorEq,Nat.reduceBEq,i64,aj re,iD,bD,bV]
  refine al hl (by simp [ah,ah.go]) rfl ?_
  simp only[zX,Nat.reduceShiftRight,Nat.reduceMod,Nat.reduceLT,Nat.reduceMul,Nat.reduceSub,Int.reduceToNat,Int.reduceNeg,Int.reduceLT,Int.reduceLE,Int.reduceEq,Nat.reduceEqDiff,Nat.reduceAdd,Nat.reduceLeDiff,reduceIte,reduceCtorEq,Nat.reduceBEq,i64,aj re,iD,bD,bV,w1,c]
  refine hp _ ?_
  simp only[zX,Nat.reduceShiftRight,Nat.reduceMod,Nat.reduceLT,Nat.reduceMul,Nat.reduceSub,Int.reduceToNat,Int.reduceNeg,Int.reduceLT,Int.reduceLE,Int.reduceEq,Nat.reduceEqDiff,Nat.reduceAdd,Nat.reduceLeDiff,reduceIte,reduceCtorEq,Nat.reduceBEq,i64,aj re,iD,bD,bV,w1,c]
  all_goals rfl
 ·rw[decide_eq_false c,Bool.false_and]
  refine an Try.func37 rfl Try.ntmps37 Try.results37 rfl 0 15 (by simp) (by simp) ?_
  simp only[zX,Nat.reduceShiftRight,Nat.reduceMod,Nat.reduceLT,Nat.reduceMul,Nat.reduceSub,Int.reduceToNat,Int.reduceNeg,Int.reduceLT,Int.reduceLE,Int.reduceEq,Nat.reduceEqDiff,Nat.reduceAdd,Nat.reduceLeDiff,reduceIte,reduceCtorEq,Nat.reduceBEq,i64,aj re,iD,bD,bV]
  refine al hl (by simp [ah,ah.go]) rfl ?_
  simp only[zX,Nat.reduceShiftRight,Nat.reduceMod,Nat.reduceLT,Nat.reduceMul,Nat.reduceSub,Int.reduceToNat,Int.reduceNeg,Int.reduceLT,Int.reduceLE,Int.reduceEq,Nat.reduceEqDiff,Nat.reduceAdd,Nat.reduceLeDiff,reduceIte,reduceCtorEq,Nat.reduceBEq,i64,aj re,iD,bD,bV,w1,c]
  all_goals rfl
theorem Po {re:Re}{ai top:Int} (h:bG re ai top=true) (hc:ai<=9) (hk:re.kids.length<=1000):nt re=true:=by
 obtain⟨h1,h2,h3,h4,h5⟩:=gL.1 h
 have eO:re.set.length<=64:=by
  split at h2
  ·simp only[fW,Bool.and_eq_true,decide_eq_true_eq]at h2
   exact h2.1
  ·omega
 have z0:(re.op=4\/re.op=5\/re.op=7\/re.op=8)->(cj re.op).1=1/\(cj re.op).2=1:=fun o=>by
  rcases o with o|o|o|o <;> rw[o] <;> simp [cj]
 have BZ:re.op=3->(cj re.op).1=2:=fun o=>by rw[o];simp [cj]
 refine kP.2 ⟨fun o=>?_,fun o=>?_,hk,?_⟩
 ·have:=z0 o;omega
 ·have:=BZ o;omega
 ·by_cases o4:re.op=4
  ·rw[if_pos o4]at h3
   rw[if_neg (by omega),if_neg (by omega)]at h4
   refine⟨by omega,by omega,by omega,by omega,fun _=>by omega,by omega,by omega,fun h=>by omega,fun h=>by omega,by omega,by omega,by omega⟩
  ·rw[if_neg o4]at h3
   refine⟨by omega,by omega,by omega,by omega,fun h=>absurd h o4,?_⟩
   by_cases o5:re.op=5\/re.op=6\/re.op=10
   ·rw[if_pos o5]at h4
    exact⟨by omega,by omega,fun h=>by omega,fun h=>by omega,by omega,by omega,by omega⟩
   ·rw[if_neg o5]at h4
    by_cases FF:re.op=11
    ·rw[if_pos FF]at h4
     exact⟨by omega,by omega,fun h=>by omega,fun h=>by omega,by omega,by omega,by omega⟩
    ·rw[if_neg FF]at h4
     exact⟨by omega,by omega,fun h=>by omega,fun h=>by omega,by omega,by omega,by omega⟩
theorem qO {ai top:Int} (hc:ai<=9) (re:Re) (h:re.whole ai top=true) (hs:re.size<=256):re.every nt=true:=by
 revert h hs
 refine Re.ind (Q:=fun re=>re.whole ai top=true->re.size<=256->re.every nt=true) (fun re ih h hs=>?_) re
 obtain⟨a1,a2⟩:=(Re.aS re).1 h
 have:=Re.sw re.kids
 have:=Re.size_eq re
 exact(Re.aS re).2 ⟨Po a1 hc (by omega),fun k hk=>ih k hk (a2 k hk) (by have:=Re.iv hk;omega)⟩
def yJ (p:jl):Int:=if dQ p≠0 then dQ p else if p.re.bC (List.replicate 10 false) false=false then 10 else if pM p.re=false then 4 else 0
theorem mQ (p:jl) (hf:p.re.dG=true):ba Try.prog 19 [bL p] (i64 (yJ p)):=by
 have h1:=L2 p hf
 have h2:dQ p=0->ba Try.prog 36 [jW p.re,kV (List.replicate 10 false),bV false] (bV (p.re.bC (List.replicate 10 false) false)):=fun hv=>by
  obtain⟨v1,v2,v3,v4,v5⟩:=gx hv
  exact L6 p.re hf (qO v4 p.re v5 v1) _ _ (by simp)
 have h3:dQ p=0->ba Try.prog 37 [jW p.re] (bV (pM p.re)):=fun hv=>by
  obtain⟨v1,v2,v3,v4,v5⟩:=gx hv
  exact JP p.re (qO v4 p.re v5 v1)
 unfold yJ
 generalize dQ p=vr at *
 cases p with
 |mk re ai aU =>
 simp only at *
 generalize re.bC (List.replicate 10 false) false=kb at *
 generalize pM re=sb at *
 simp only[Cy,Re.ae re,List.map_cons,List.map_nil,List.cons_append,List.nil_append,aj re,i64,iD,bD,bV,kV,List.replicate]at h1 h2 h3
 by_cases hv:vr=0
 ·subst hv
  have h2:=h2 rfl
  have h3:=h3 rfl
  rw[if_neg (by simp)]
  cases kb with
  |false =>
   rw[if_pos rfl]
   refine an Try.func19 rfl Try.ntmps19 Try.results19 rfl 0 15 (by simp) (by simp) ?_
   simp only[zX,Nat.reduceShiftRight,Nat.reduceMod,Nat.reduceLT,Nat.reduceMul,Nat.reduceSub,Int.reduceToNat,Int.reduceNeg,Int.reduceLT,Int.reduceLE,Int.reduceEq,Nat.reduceEqDiff,Nat.reduceAdd,Nat.reduceLeDiff,reduceIte,reduceCtorEq,Nat.reduceBEq,i64,bL,Re.ae,bV,iD,bD]
   refine al h1 rfl rfl ?_
   simp only[zX,Nat.reduceShiftRight,Nat.reduceMod,Nat.reduceLT,Nat.reduceMul,Nat.reduceSub,Int.reduceToNat,Int.reduceNeg,Int.reduceLT,Int.reduceLE,Int.reduceEq,Nat.reduceEqDiff,Nat.reduceAdd,Nat.reduceLeDiff,reduceIte,reduceCtorEq,Nat.reduceBEq,i64,bL,Re.ae,bV,iD,bD,ne_eq,not_true_eq_false]
   refine al h2 (by simp [ah,ah.go]) rfl ?_
   simp only[zX,Nat.reduceShiftRight,Nat.reduceMod,Nat.reduceLT,Nat.reduceMul,Nat.reduceSub,Int.reduceToNat,Int.reduceNeg,Int.reduceLT,Int.reduceLE,Int.reduceEq,Nat.reduceEqDiff,Nat.reduceAdd,Nat.reduceLeDiff,reduceIte,reduceCtorEq,Nat.reduceBEq,i64,bL,Re.ae,bV,iD,bD,Bool.not_false]
   all_goals rfl
  |true =>
   rw[if_neg (by simp)]
   cases sb with
   |false =>
    rw[if_pos rfl]
    refine an Try.func19 rfl Try.ntmps19 Try.results19 rfl 0 15 (by simp) (by simp) ?_
    simp only[zX,Nat.reduceShiftRight,Nat.reduceMod,Nat.reduceLT,Nat.reduceMul,Nat.reduceSub,Int.reduceToNat,Int.reduceNeg,Int.reduceLT,Int.reduceLE,Int.reduceEq,Nat.reduceEqDiff,Nat.reduceAdd,Nat.reduceLeDiff,reduceIte,reduceCtorEq,Nat.reduceBEq,i64,bL,Re.ae,bV,iD,bD]
    refine al h1 rfl rfl ?_
    simp only[zX,Nat.reduceShiftRight,Nat.reduceMod,Nat.reduceLT,Nat.reduceMul,Nat.reduceSub,Int.reduceToNat,Int.reduceNeg,Int.reduceLT,Int.reduceLE,Int.reduceEq,Nat.reduceEqDiff,Nat.reduceAdd,Nat.reduceLeDiff,reduceIte,reduceCtorEq,Nat.reduceBEq,i64,bL,Re.ae,bV,iD,bD,ne_eq,not_true_eq_false]
    refine al h2 (by simp [ah,ah.go]) rfl ?_
    simp only[zX,Nat.reduceShiftRight,Nat.reduceMod,Nat.reduceLT,Nat.reduceMul,Nat.reduceSub,Int.reduceToNat,Int.reduceNeg,Int.reduceLT,Int.reduceLE,Int.reduceEq,Nat.reduceEqDiff,Nat.reduceAdd,Nat.reduceLeDiff,reduceIte,reduceCtorEq,Nat.reduceBEq,i64,bL,Re.ae,bV,iD,bD,Bool.not_true]
    refine al h3 (by simp [ah,ah.go]) rfl ?_
    simp only[zX,Nat.reduceShiftRight,Nat.reduceMod,Nat.reduceLT,Nat.reduceMul,Nat.reduceSub,Int.reduceToNat,Int.reduceNeg,Int.reduceLT,Int.reduceLE,Int.reduceEq,Nat.reduceEqDiff,Nat.reduceAdd,Nat.reduceLeDiff,reduceIte,reduceCtorEq,Nat.reduceBEq,i64,bL,Re.ae,bV,iD,bD,Bool.not_false]
    all_goals rfl
   |true =>
    rw[if_neg (by simp)]
    refine an Try.func19 rfl Try.ntmps19 Try.results19 rfl 0 15 (by simp) (by simp) ?_
    simp only[zX,Nat.reduceShiftRight,Nat.reduceMod,Nat.reduceLT,Nat.reduceMul,Nat.reduceSub,Int.reduceToNat,Int.reduceNeg,Int.reduceLT,Int.reduceLE,Int.reduceEq,Nat.reduceEqDiff,Nat.reduceAdd,Nat.reduceLeDiff,reduceIte,reduceCtorEq,Nat.reduceBEq,i64,bL,Re.ae,bV,iD,bD]
    refine al h1 rfl rfl ?_
    simp only[zX,Nat.reduceShiftRight,Nat.reduceMod,Nat.reduceLT,Nat.reduceMul,Nat.reduceSub,Int.reduceToNat,Int.reduceNeg,Int.reduceLT,Int.reduceLE,Int.reduceEq,Nat.reduceEqDiff,Nat.reduceAdd,Nat.reduceLeDiff,reduceIte,reduceCtorEq,Nat.reduceBEq,i64,bL,Re.ae,bV,iD,bD,ne_eq,not_true_eq_false]
    refine al h2 (by simp [ah,ah.go]) rfl ?_
    simp only[zX,Nat.reduceShiftRight,Nat.reduceMod,Nat.reduceLT,Nat.reduceMul,Nat.reduceSub,Int.reduceToNat,Int.reduceNeg,Int.reduceLT,Int.reduceLE,Int.reduceEq,Nat.reduceEqDiff,Nat.reduceAdd,Nat.reduceLeDiff,reduceIte,reduceCtorEq,Nat.reduceBEq,i64,bL,Re.ae,bV,iD,bD,Bool.not_true]
    refine al h3 (by simp [ah,ah.go]) rfl ?_
    simp only[zX,Nat.reduceShiftRight,Nat.reduceMod,Nat.reduceLT,Nat.reduceMul,Nat.reduceSub,Int.reduceToNat,Int.reduceNeg,Int.reduceLT,Int.reduceLE,Int.reduceEq,Nat.reduceEqDiff,Nat.reduceAdd,Nat.reduceLeDiff,reduceIte,reduceCtorEq,Nat.reduceBEq,i64,bL,Re.ae,bV,iD,bD,Bool.not_true]
    all_goals rfl
 ·rw[if_pos hv]
  refine an Try.func19 rfl Try.ntmps19 Try.results19 rfl 0 15 (by simp) (by simp) ?_
  simp only[zX,Nat.reduceShiftRight,Nat.reduceMod,Nat.reduceLT,Nat.reduceMul,Nat.reduceSub,Int.reduceToNat,Int.reduceNeg,Int.reduceLT,Int.reduceLE,Int.reduceEq,Nat.reduceEqDiff,Nat.reduceAdd,Nat.reduceLeDiff,reduceIte,reduceCtorEq,Nat.reduceBEq,i64,bL,Re.ae,bV,iD,bD]
  refine al h1 rfl rfl ?_
  simp only[zX,Nat.reduceShiftRight,Nat.reduceMod,Nat.reduceLT,Nat.reduceMul,Nat.reduceSub,Int.reduceToNat,Int.reduceNeg,Int.reduceLT,Int.reduceLE,Int.reduceEq,Nat.reduceEqDiff,Nat.reduceAdd,Nat.reduceLeDiff,reduceIte,reduceCtorEq,Nat.reduceBEq,i64,bL,Re.ae,bV,iD,bD,ne_eq,hv,not_false_eq_true]
  all_goals rfl
section
variable (t:List Int) (root parts:D) (bg nb:Nat) (Bs:List (List Bool)) (b a:Nat)
theorem qo (C:List av) (tl:List VL.Obj):List.take 6 (wO t root parts bg nb Bs b a C++tl)=wO t root parts bg nb Bs b a C:=rfl
def wS (C:List av):List VL.Obj:=wO t root parts bg nb Bs b a C
theorem IF (re:Re) (ho:re.op≠2/\re.op≠3/\re.op≠4/\re.op≠5):uC t root parts bg nb Bs b a re:=by
 obtain⟨o2,o3,o4,o5⟩:=ho
 intro k C hC
 have gZ:=fun C=>tD t root parts bg nb Bs b a C
 have Gj:C.length<=1000000000000:=by omega
 by_cases o1:re.op=1
 ·have hc:re.emit k C=C++[sQ re k]:=by rw[Re.jE,if_pos o1]
  rw[hc]
  have hp:=fun K hk=>rz (t:=t) (root:=root) (parts:=parts) (bg:=bg) (nb:=nb) (Bs:=Bs) (b:=b) (a:=a) (C:=C) Gj (sQ re k) (re.aY k) (.ag [i64 1,i64 0,i64 0,i64 0,.cl (.func 57) [] [mB b a,.rf 6 0 0 0]]) (by simp [lU,lU.go,oY,sQ,av.cells,bQ,o1,mB,nB,i64]) (K:=K) hk
  generalize C++[sQ re k]=C2 at *
  simp only[Re.dw,o1,Int.reduceEq,or_self,or_true,true_or,if_false,if_true,iD,bD,i64]at hp
  refine an Try.func56 rfl Try.ntmps56 Try.results56 rfl 6 1278813932664544596687975450732993771492559903679 (Nat.le_refl 6) (by first|decide|(simp [cT];done)) ?_
  simp only[zX,Nat.reduceShiftRight,Nat.reduceMod,Nat.reduceLT,Nat.reduceMul,Nat.reduceSub,Int.reduceToNat,Int.reduceNeg,Int.reduceLT,Int.reduceLE,Int.reduceEq,Nat.reduceEqDiff,Nat.reduceAdd,Nat.reduceLeDiff,reduceIte,reduceCtorEq,Nat.reduceBEq,i64,bV,iD,bD,cT,wO,Re.dw,o1,or_self,or_true,true_or,if_false,if_true]
  refine hp _ ?_
  simp only[zX,Nat.reduceShiftRight,Nat.reduceMod,Nat.reduceLT,Nat.reduceMul,Nat.reduceSub,Int.reduceToNat,Int.reduceNeg,Int.reduceLT,Int.reduceLE,Int.reduceEq,Nat.reduceEqDiff,Nat.reduceAdd,Nat.reduceLeDiff,reduceIte,reduceCtorEq,Nat.reduceBEq,i64,bV,iD,bD,qo,gZ]
  rfl
 by_cases FF:re.op=11
 ·have hc:re.emit k C=C++[mq re k]:=by rw[Re.jE,if_neg (by omega),if_pos (by omega)]
  rw[hc]
  have hp:=fun K hk=>rz (t:=t) (root:=root) (parts:=parts) (bg:=bg) (nb:=nb) (Bs:=Bs) (b:=b) (a:=a) (C:=C) Gj (mq re k) (re.aY k) (.ag [i64 5,i64 0,i64 0,i64 0,.cl (.func 59) [] [.rf 6 0 0 0,mB b a]]) (by simp [lU,lU.go,oY,mq,av.cells,bQ,FF,mB,nB,i64]) (K:=K) hk
  generalize C++[mq re k]=C2 at *
  simp only[Re.dw,FF,Int.reduceEq,or_self,or_true,true_or,if_false,if_true,iD,bD,i64]at hp
  refine an Try.func56 rfl Try.ntmps56 Try.results56 rfl 6 1278813932664544596687975450732993771492559903679 (Nat.le_refl 6) (by first|decide|(simp [cT];done)) ?_
  simp only[zX,Nat.reduceShiftRight,Nat.reduceMod,Nat.reduceLT,Nat.reduceMul,Nat.reduceSub,Int.reduceToNat,Int.reduceNeg,Int.reduceLT,Int.reduceLE,Int.reduceEq,Nat.reduceEqDiff,Nat.reduceAdd,Nat.reduceLeDiff,reduceIte,reduceCtorEq,Nat.reduceBEq,i64,bV,iD,bD,cT,wO,Re.dw,FF,or_self,or_true,true_or,if_false,if_true]
  refine hp _ ?_
  simp only[zX,Nat.reduceShiftRight,Nat.reduceMod,Nat.reduceLT,Nat.reduceMul,Nat.reduceSub,Int.reduceToNat,Int.reduceNeg,Int.reduceLT,Int.reduceLE,Int.reduceEq,Nat.reduceEqDiff,Nat.reduceAdd,Nat.reduceLeDiff,reduceIte,reduceCtorEq,Nat.reduceBEq,i64,bV,iD,bD,qo,gZ]
  rfl
 by_cases o7:re.op=7
 ·have hc:re.emit k C=C++[mq re k]:=by rw[Re.jE,if_neg (by omega),if_pos (by omega)]
  rw[hc]
  have hp:=fun K hk=>rz (t:=t) (root:=root) (parts:=parts) (bg:=bg) (nb:=nb) (Bs:=Bs) (b:=b) (a:=a) (C:=C) Gj (mq re k) (re.aY k) (.ag [i64 5,i64 0,i64 0,i64 0,.cl (.func 61) [] [mB b a,.rf 6 0 0 0]]) (by simp [lU,lU.go,oY,mq,av.cells,bQ,o7,mB,nB,i64]) (K:=K) hk
  generalize C++[mq re k]=C2 at *
  simp only[Re.dw,o7,Int.reduceEq,or_self,or_true,true_or,if_false,if_true,iD,bD,i64]at hp
  refine an Try.func56 rfl Try.ntmps56 Try.results56 rfl 6 1278813932664544596687975450732993771492559903679 (Nat.le_refl 6) (by first|decide|(simp [cT];done)) ?_
  simp only[zX,Nat.reduceShiftRight,Nat.reduceMod,Nat.reduceLT,Nat.reduceMul,Nat.reduceSub,Int.reduceToNat,Int.reduceNeg,Int.reduceLT,Int.reduceLE,Int.reduceEq,Nat.reduceEqDiff,Nat.reduceAdd,Nat.reduceLeDiff,reduceIte,reduceCtorEq,Nat.reduceBEq,i64,bV,iD,bD,cT,wO,Re.dw,o7,or_self,or_true,true_or,if_false,if_true]
  refine hp _ ?_
  simp only[zX,Nat.reduceShiftRight,Nat.reduceMod,Nat.reduceLT,Nat.reduceMul,Nat.reduceSub,Int.reduceToNat,Int.reduceNeg,Int.reduceLT,Int.reduceLE,Int.reduceEq,Nat.reduceEqDiff,Nat.reduceAdd,Nat.reduceLeDiff,reduceIte,reduceCtorEq,Nat.reduceBEq,i64,bV,iD,bD,qo,gZ]
  rfl
 by_cases o8:re.op=8
 ·have hc:re.emit k C=C++[mq re k]:=by rw[Re.jE,if_neg (by omega),if_pos (by omega)]
  rw[hc]
  have hp:=fun K hk=>rz (t:=t) (root:=root) (parts:=parts) (bg:=bg) (nb:=nb) (Bs:=Bs) (b:=b) (a:=a) (C:=C) Gj (mq re k) (re.aY k) (.ag [i64 5,i64 0,i64 0,i64 0,.cl (.func 61) [] [mB b a,.rf 6 0 0 0]]) (by simp [lU,lU.go,oY,mq,av.cells,bQ,o8,mB,nB,i64]) (K:=K) hk
  generalize C++[mq re k]=C2 at *
  simp only[Re.dw,o8,Int.reduceEq,or_self,or_true,true_or,if_false,if_true,iD,bD,i64]at hp
  refine an Try.func56 rfl Try.ntmps56 Try.results56 rfl 6 1278813932664544596687975450732993771492559903679 (Nat.le_refl 6) (by first|decide|(simp [cT];done)) ?_
  simp only[zX,Nat.reduceShiftRight,Nat.reduceMod,Nat.reduceLT,Nat.reduceMul,Nat.reduceSub,Int.reduceToNat,Int.reduceNeg,Int.reduceLT,Int.reduceLE,Int.reduceEq,Nat.reduceEqDiff,Nat.reduceAdd,Nat.reduceLeDiff,reduceIte,reduceCtorEq,Nat.reduceBEq,i64,bV,iD,bD,cT,wO,Re.dw,o8,or_self,or_true,true_or,if_false,if_true]
  refine hp _ ?_
  simp only[zX,Nat.reduceShiftRight,Nat.reduceMod,Nat.reduceLT,Nat.reduceMul,Nat.reduceSub,Int.reduceToNat,Int.reduceNeg,Int.reduceLT,Int.reduceLE,Int.reduceEq,Nat.reduceEqDiff,Nat.reduceAdd,Nat.reduceLeDiff,reduceIte,reduceCtorEq,Nat.reduceBEq,i64,bV,iD,bD,qo,gZ]
  rfl
 have hc:re.emit k C=C:=by rw[Re.jE,if_neg o1,if_neg (by omega),if_neg o2,if_neg o3,if_neg o5,if_neg o4]
 rw[hc]
 refine an Try.func56 rfl Try.ntmps56 Try.results56 rfl 6 1278813932664544596687975450732993771492559903679 (Nat.le_refl 6) (by first|decide|(simp [cT];done)) ?_
 simp only[zX,Nat.reduceShiftRight,Nat.reduceMod,Nat.reduceLT,Nat.reduceMul,Nat.reduceSub,Int.reduceToNat,Int.reduceNeg,Int.reduceLT,Int.reduceLE,Int.reduceEq,Nat.reduceEqDiff,Nat.reduceAdd,Nat.reduceLeDiff,reduceIte,reduceCtorEq,Nat.reduceBEq,i64,bV,iD,bD,cT,wO,Re.dw,o1,o2,o3,o4,o5,o7,o8,FF]
 have hb:=fe 6 bg Bs
 have uq:((cr C.length b a C).au.all fun e=>e.all (ah 6))=true:=iP 6 C.length b a (by omega) C
 rw[hb,uq]
 rfl
def lT (re:Re) (k:Nat):VL.Obj:=⟨0,true,1,[[.d (re.aY k)]]⟩
theorem Gf (re:Re) (k:Nat):cT b a re k=(cT b a re k).map (aJ [0,1,2,3,4,5]):=by simp [cT,aJ,aJ.go,mB]
theorem JC (re:Re) (k:Nat):ah.go 6 (cT b a re k)=true:=by simp [cT,ah,ah.go,mB]
variable {t root parts bg nb Bs b a}
theorem nX {x:Re} (h:uC t root parts bg nb Bs b a x) (k:Nat) {C:List av} (hC:C.length+x.fT<=1000000000000) {tl:List VL.Obj}{K:V->List VL.Obj->Prop} (hk:K (.tu []) (wO t root parts bg nb Bs b a (x.emit k C)++tl)) :
  aq Try.prog 56 (cT b a x k) (wO t root parts bg nb Bs b a C++tl) K :=
 NM (h k C hC) (Gf b a x k) (JC b a x k) rfl hk
variable (t root parts bg nb Bs b a)
theorem KK (re:Re) (o:re.op=2) (hE:Hf re=true) (hK:∀x∈re.kids,uC t root parts bg nb Bs b a x):uC t root parts bg nb Bs b a re:=by
 intro k C hC
 obtain⟨q1,q2,q3,_⟩:=oE.1 hE
 have gZ:=fun C=>tD t root parts bg nb Bs b a C
 have hc:re.emit k C=Re.dc re.kids k C:=by rw[Re.jE,if_neg (by omega),if_neg (by omega),if_pos o]
 have hz:re.fT=Re.da re.kids:=by rw[Re.nm,vv,if_neg (by omega),if_pos o]
 rw[hz]at hC
 rw[hc]
 refine an Try.func56 rfl Try.ntmps56 Try.results56 rfl 6 1278813932664544596687975450732993771492559903679 (Nat.le_refl 6) (by first|decide|(simp [cT];done)) ?_
 simp only[zX,Nat.reduceShiftRight,Nat.reduceMod,Nat.reduceLT,Nat.reduceMul,Nat.reduceSub,Int.reduceToNat,Int.reduceNeg,Int.reduceLT,Int.reduceLE,Int.reduceEq,Nat.reduceEqDiff,Nat.reduceAdd,Nat.reduceLeDiff,reduceIte,reduceCtorEq,Nat.reduceBEq,i64,bV,iD,bD,cT,wO,Re.dw,o,or_self,if_false,Re.mb]
 refine ay (fun n e s=>∃i:Nat,n=re.kids.length-i/\i<=re.kids.length/\e 3=.rf 4 0 0 0/\e 46=.d (.sl (Re.dg re.kids k))/\e 47=i64 re.kids.length/\e 48=i64 i/\s=wS t root parts bg nb Bs b a (Re.dc (re.kids.take i) k C)++[lT re k])
  ⟨_,_,_,bI.refl,0,rfl,by omega,rfl,rfl,rfl,rfl,by simp [wS,wO,Re.dc,lT,Re.dw,o,iD,bD]⟩ ?_
 rintro n e s ⟨i,rfl,hi,h3,TM,S6,QO,rfl⟩
 rcases Nat.lt_or_ge i re.kids.length with az|ib
 ·obtain⟨x,hx⟩:∃x,re.kids[i]?=some x:=⟨_,List.getElem?_eq_getElem az⟩
  have hm:=List.mem_of_getElem? hx
  have aK:(i:Int)<(re.kids.length:Int):=by omega
  have hi0:(0:Int)<=(i:Int):=by omega
  have uA:=su re.kids k i x hx
  have fo:Re.da (re.kids.take i)+x.fT<=Re.da re.kids:=by
   have h1:re.kids=re.kids.take (i+1)++re.kids.drop (i+1):=(List.take_append_drop _ _).symm
   have h2:Re.da re.kids=Re.da (re.kids.take (i+1))+Re.da (re.kids.drop (i+1)):=by rw[<- fF,<- h1]
   rw[h2,bt hx,fF]
   simp only[Re.da]
   omega
  have hw:=fun K hk=>nX (hK x hm) (k+Re.aN (re.kids.take i)) (C:=Re.dc (re.kids.take i) k C) (by rw[Re.rn];omega) (tl:=[lT re k]) (K:=K) hk
  rw[<- zc,<- bt hx]at hw
  generalize Re.dc (re.kids.take i) k C=C1 at *
  generalize VC:Re.dc (re.kids.take (i+1)) k C=C2 at *
  unfold cT wO at hw
  simp only[zX,Nat.reduceShiftRight,Nat.reduceMod,Nat.reduceLT,Nat.reduceMul,Nat.reduceSub,Int.reduceToNat,Int.reduceNeg,Int.reduceLT,Int.reduceLE,Int.reduceEq,Nat.reduceEqDiff,Nat.reduceAdd,Nat.reduceLeDiff,reduceIte,reduceCtorEq,Nat.reduceBEq,i64,bV,iD,bD,wS,wO,h3,TM,S6,QO,aK,hi0,az,Re.mb,Int.toNat_natCast,uA,List.cons_append,List.nil_append]
  refine hw _ ?_
  simp only[zX,Nat.reduceShiftRight,Nat.reduceMod,Nat.reduceLT,Nat.reduceMul,Nat.reduceSub,Int.reduceToNat,Int.reduceNeg,Int.reduceLT,Int.reduceLE,Int.reduceEq,Nat.reduceEqDiff,Nat.reduceAdd,Nat.reduceLeDiff,reduceIte,reduceCtorEq,Nat.reduceBEq,i64,bV,iD,bD,h3,TM,S6,QO]
  refine⟨re.kids.length-(i+1),_,_,by omega,bI.refl,i+1,rfl,az,?_,?_,?_,?_,by rw[VC]⟩ <;> (try simp only[zU,Nat.reduceBEq,Nat.reduceShiftRight,Nat.reduceMod,Nat.reduceEqDiff,reduceIte])
  ·exact h3
  ·exact TM
  ·exact S6
  ·rw[br _ (by omega)];rfl
 ·have eQ:i=re.kids.length:=by omega
  subst eQ
  rw[List.take_length]
  simp only[zX,Nat.reduceShiftRight,Nat.reduceMod,Nat.reduceLT,Nat.reduceMul,Nat.reduceSub,Int.reduceToNat,Int.reduceNeg,Int.reduceLT,Int.reduceLE,Int.reduceEq,Nat.reduceEqDiff,Nat.reduceAdd,Nat.reduceLeDiff,reduceIte,reduceCtorEq,Nat.reduceBEq,i64,bV,iD,bD,wS,h3,TM,S6,QO,Int.lt_irrefl,qo,gZ]
  rfl
theorem Ko (re x:Re) (o:re.op=5) (hE:Hf re=true) (hk:re.kids=[x]) (hK:uC t root parts bg nb Bs b a x):uC t root parts bg nb Bs b a re:=by
 intro k C hC
 obtain⟨_,_,_,_,_,_,_,n0,n1⟩:=oE.1 hE
 have gZ:=fun C=>tD t root parts bg nb Bs b a C
 have hc:re.emit k C=x.emit k (C++[gy (2*re.n-2)])++[gy (2*re.n-1)]:=by rw[Re.jE,if_neg (by omega),if_neg (by omega),if_neg (by omega),if_neg (by omega),if_pos o,hk];rfl
 have hz:re.fT=x.fT+2:=by rw[Re.nm,vv,if_neg (by omega),if_neg (by omega),if_neg (by omega),if_pos o,hk];simp [Re.da]
 rw[hz]at hC
 rw[hc]
 have Ra:IntKind.i64.wrap (2*re.n)=2*re.n:=br _ (by omega)
 have Xv:IntKind.i64.wrap (2*re.n-2)=2*re.n-2:=br _ (by omega)
 have X9:IntKind.i64.wrap (2*re.n-1)=2*re.n-1:=br _ (by omega)
 have vK:=fun K hk=>iM (t:=t) (root:=root) (parts:=parts) (bg:=bg) (nb:=nb) (Bs:=Bs) (b:=b) (a:=a) (C:=C) (by omega) 4 0 0 (2*re.n-2) (tl:=[lT re k]) (K:=K) hk
 have hw:=fun K hk=>nX hK k (C:=C++[gy (2*re.n-2)]) (by rw[List.length_append,List.length_singleton];omega) (tl:=[lT re k]) (K:=K) hk
 have AE:(x.emit k (C++[gy (2*re.n-2)])).length<=1000000000000:=by rw[Re.eY,List.length_append,List.length_singleton];omega
 have BX:=fun K hk=>iM (t:=t) (root:=root) (parts:=parts) (bg:=bg) (nb:=nb) (Bs:=Bs) (b:=b) (a:=a) (C:=x.emit k (C++[gy (2*re.n-2)])) AE 4 0 0 (2*re.n-1) (tl:=[lT re k]) (K:=K) hk
 rw[show (⟨4,0,0,2*re.n-2,none⟩:av)=gy (2*re.n-2) from rfl]at vK
 rw[show (⟨4,0,0,2*re.n-1,none⟩:av)=gy (2*re.n-1) from rfl]at BX
 generalize x.emit k (C++[gy (2*re.n-2)])++[gy (2*re.n-1)]=C3 at *
 generalize x.emit k (C++[gy (2*re.n-2)])=C2 at *
 generalize C++[gy (2*re.n-2)]=C1 at *
 have B9:Re.dg re.kids k=[[x.aY k]]:=by rw[hk];rfl
 have eF:re.aY k=.el [iD 5,.sl (re.set.map aV),.sl (re.kids.map Re.cells),iD re.mn,iD re.mx,iD re.mode,iD re.n,bD re.neg,.sl [[x.aY k]],iD k]:=by
  rw[Re.dw,if_neg (by omega),Nat.add_zero,B9,o]
 have hq:([[x.aY k]]:List (List D))[0]?=some [x.aY k]:=rfl
 unfold lT at vK BX hw
 unfold cT at hw ⊢
 rw[eF]at vK BX hw ⊢
 generalize x.aY k=xd at *
 simp only[iD,bD,i64]at vK BX hw
 refine an Try.func56 rfl Try.ntmps56 Try.results56 rfl 6 1278813932664544596687975450732993771492559903679 (Nat.le_refl 6) (by first|decide|(simp [cT];done)) ?_
 simp only[zX,Nat.reduceShiftRight,Nat.reduceMod,Nat.reduceLT,Nat.reduceMul,Nat.reduceSub,Int.reduceToNat,Int.reduceNeg,Int.reduceLT,Int.reduceLE,Int.reduceEq,Nat.reduceEqDiff,Nat.reduceAdd,Nat.reduceLeDiff,reduceIte,reduceCtorEq,Nat.reduceBEq,i64,bV,iD,bD,wO,List.length_cons,List.length_nil,Nat.zero_add]
 refine ar mix [9] [] (by rfl) ?_
 simp only[zX,Nat.reduceShiftRight,Nat.reduceMod,Nat.reduceLT,Nat.reduceMul,Nat.reduceSub,Int.reduceToNat,Int.reduceNeg,Int.reduceLT,Int.reduceLE,Int.reduceEq,Nat.reduceEqDiff,Nat.reduceAdd,Nat.reduceLeDiff,reduceIte,reduceCtorEq,Nat.reduceBEq,i64,bV,iD,bD,Ra,Xv]
 refine eh (vK _ ⟨rfl,rfl⟩) ?_
 simp only[zX,Nat.reduceShiftRight,Nat.reduceMod,Nat.reduceLT,Nat.reduceMul,Nat.reduceSub,Int.reduceToNat,Int.reduceNeg,Int.reduceLT,Int.reduceLE,Int.reduceEq,Nat.reduceEqDiff,Nat.reduceAdd,Nat.reduceLeDiff,reduceIte,reduceCtorEq,Nat.reduceBEq,i64,bV,iD,bD,wO,List.cons_append,List.nil_append]
 refine ar mix [7] [] (by rfl) ?_
 simp only[zX,Nat.reduceShiftRight,Nat.reduceMod,Nat.reduceLT,Nat.reduceMul,Nat.reduceSub,Int.reduceToNat,Int.reduceNeg,Int.reduceLT,Int.reduceLE,Int.reduceEq,Nat.reduceEqDiff,Nat.reduceAdd,Nat.reduceLeDiff,reduceIte,reduceCtorEq,Nat.reduceBEq,i64,bV,iD,bD,List.length_cons,List.length_nil,Nat.zero_add,hq]
 refine⟨by decide,?_⟩
 refine eh (hw _ ⟨rfl,rfl⟩) ?_
 simp only[zX,Nat.reduceShiftRight,Nat.reduceMod,Nat.reduceLT,Nat.reduceMul,Nat.reduceSub,Int.reduceToNat,Int.reduceNeg,Int.reduceLT,Int.reduceLE,Int.reduceEq,Nat.reduceEqDiff,Nat.reduceAdd,Nat.reduceLeDiff,reduceIte,reduceCtorEq,Nat.reduceBEq,i64,bV,iD,bD,wO,List.cons_append,List.nil_append]
 refine ar mix [9] [] (by rfl) ?_
 simp only[zX,Nat.reduceShiftRight,Nat.reduceMod,Nat.reduceLT,Nat.reduceMul,Nat.reduceSub,Int.reduceToNat,Int.reduceNeg,Int.reduceLT,Int.reduceLE,Int.reduceEq,Nat.reduceEqDiff,Nat.reduceAdd,Nat.reduceLeDiff,reduceIte,reduceCtorEq,Nat.reduceBEq,i64,bV,iD,bD,Ra,X9]
 refine eh (BX _ ⟨rfl,rfl⟩) ?_
 simp only[zX,Nat.reduceShiftRight,Nat.reduceMod,Nat.reduceLT,Nat.reduceMul,Nat.reduceSub,Int.reduceToNat,Int.reduceNeg,Int.reduceLT,Int.reduceLE,Int.reduceEq,Nat.reduceEqDiff,Nat.reduceAdd,Nat.reduceLeDiff,reduceIte,reduceCtorEq,Nat.reduceBEq,i64,bV,iD,bD,qo,gZ]
 rfl
end
section
variable (t:List Int) (root parts:D) (bg nb:Nat) (Bs:List (List Bool)) (b a:Nat)
omit t root parts bg nb Bs b a in
theorem HX:∀(l:List Re) (k:Nat) (C:List av) (J:List Nat),∀x∈(fZ l k C J).2,x∈J\/x<(fZ l k C J).1.length
 |[],_,_,_,x,h=>.inl h
 |y::l,k,C,J,x,h=>by
  have e:fZ (y::l) k C J=fZ l (k+y.looks) (u7 (y.emit k (C++[dS 0 0])++[jN 0]) C.length ((C.length:Int)+1) (((y.emit k (C++[dS 0 0])).length:Int)+1)) (J++[(y.emit k (C++[dS 0 0])).length]):=rfl
  rw[e]at h ⊢
  have hl:=(tV l (k+y.looks) (u7 (y.emit k (C++[dS 0 0])++[jN 0]) C.length ((C.length:Int)+1) (((y.emit k (C++[dS 0 0])).length:Int)+1)) (J++[(y.emit k (C++[dS 0 0])).length])).1
  rcases HX l _ _ _ x h with h|h
  ·rcases List.mem_append.1 h with h|h
   ·exact .inl h
   ·rw[List.mem_singleton]at h
    rw[lq,List.length_append,List.length_singleton]at hl
    exact .inr (by omega)
  ·exact .inr h
def RO (C:List av) (re:Re) (k g:Nat) (J:List Nat):List VL.Obj:=wO t root parts bg nb Bs b a C++[lT re k,bd g J]
def yI (C:List av) (re:Re) (k g:Nat) (J:List Nat):List VL.Obj:=wO t root parts bg nb Bs b a C++[lT re k,bd g J]
theorem Kp (re:Re) (l:List Re) (z:Re) (o:re.op=3) (hE:Hf re=true) (hk:re.kids=l++[z]) (hK:∀x∈re.kids,uC t root parts bg nb Bs b a x):uC t root parts bg nb Bs b a re:=by
 intro k C hC
 obtain⟨_,_,q3,_⟩:=oE.1 hE
 have gZ:=fun C=>tD t root parts bg nb Bs b a C
 have hc:re.emit k C=(fZ l k C []).2.foldl (xO (z.emit (k+Re.aN l) (fZ l k C []).1).length) (z.emit (k+Re.aN l) (fZ l k C []).1):=by rw[Re.jE,if_neg (by omega),if_neg (by omega),if_neg (by omega),if_pos o,hk,CM]
 have Of:re.kids.length=l.length+1:=by rw[hk];simp
 have hz:re.fT=Re.da l+z.fT+2*l.length:=by
  rw[Re.nm,vv,if_neg (by omega),if_neg (by omega),if_pos o,Of,hk,fF]
  simp [Re.da]
 rw[hz]at hC
 rw[hc]
 have QZ:∀(i:Nat) (x:Re),re.kids[i]?=some x->(Re.dg re.kids k)[i]?=some [x.aY (k+Re.aN (re.kids.take i))]:=fun i x h=>su re.kids k i x h
 have B9:=Re.mb re.kids k
 have eF:re.aY k=.el [iD 3,.sl (re.set.map aV),.sl (re.kids.map Re.cells),iD re.mn,iD re.mx,iD re.mode,iD re.n,bD re.neg,.sl (Re.dg re.kids k),iD k]:=by
  rw[Re.dw,if_neg (by omega),Nat.add_zero,o]
 have Zd:IntKind.i64.wrap ((re.kids.length:Int)-1)=(l.length:Int):=by rw[Of];rw[br _ (by omega)];omega
 have ly:lT re k=⟨0,true,1,[[.d (re.aY k)]]⟩:=rfl
 unfold cT
 rw[eF]at ly ⊢
 generalize Zo:Re.dg re.kids k=ND at *
 simp only[iD,bD]at ly
 have zw:(l.length:Int)<=(ND.length:Int):=by omega
 have AE:l.length<=ND.length:=by omega
 have ph:(0:Int)<=(l.length:Int):=by omega
 refine an Try.func56 rfl Try.ntmps56 Try.results56 rfl 6 1278813932664544596687975450732993771492559903679 (Nat.le_refl 6) (by first|decide|(simp [cT];done)) ?_
 simp only[zX,Nat.reduceShiftRight,Nat.reduceMod,Nat.reduceLT,Nat.reduceMul,Nat.reduceSub,Int.reduceToNat,Int.reduceNeg,Int.reduceLT,Int.reduceLE,Int.reduceEq,Nat.reduceEqDiff,Nat.reduceAdd,Nat.reduceLeDiff,reduceIte,reduceCtorEq,Nat.reduceBEq,i64,bV,iD,bD,wO,B9,Zd,ph,zw,AE,Int.toNat_natCast,List.length_take]
 refine⟨by omega,?_⟩
 refine ay (fun n e s=>∃(i g:Nat),n=l.length-i/\i<=l.length/\e 1=.rf 3 0 0 0/\e 3=.rf 4 0 0 0/\e 4=.rf 2 0 0 0/\e 5=.rf 6 0 0 0/\e 8=.so 7 g 0 i/\e 9=i64 l.length/\e 69=.d (.sl (ND.take l.length))/\e 70=i64 l.length/\e 71=i64 i/\s=RO t root parts bg nb Bs b a (fZ (l.take i) k C []).1 re k g (fZ (l.take i) k C []).2)
  ⟨_,_,_,.JV (mA 8 1 rfl),0,0,rfl,by omega,rfl,rfl,rfl,rfl,rfl,rfl,rfl,?_,rfl,by rw[RO,ly];rfl⟩ ?_
 ·(try simp only[zU,Nat.reduceBEq,Nat.reduceShiftRight,Nat.reduceMod,Nat.reduceEqDiff,reduceIte])
  have:min ((l.length:Int)-0).toNat re.kids.length=l.length:=by omega
  rw[this]
  rfl
 rintro n e s ⟨i,g,rfl,hi,h1,h3,h4,h5,h8,h9,MB,MG,MW,rfl⟩
 have Q7:=(tV (l.take i) k C []).2
 have Rc:=(tV (l.take i) k C []).1
 rw[List.length_nil,Nat.zero_add]at Q7
 rcases Nat.lt_or_ge i l.length with az|ib
 ·obtain⟨x,hx⟩:∃x,l[i]?=some x:=⟨_,List.getElem?_eq_getElem az⟩
  have WZ:re.kids[i]?=some x:=by rw[hk,List.getElem?_append_left az];exact hx
  have hm:x∈re.kids:=List.mem_of_getElem? WZ
  have aK:(i:Int)<(l.length:Int):=by omega
  have hi0:(0:Int)<=(i:Int):=by omega
  have uA:=QZ i x WZ
  have GO:re.kids.take i=l.take i:=by rw[hk,List.take_append_of_le_length (by omega)]
  rw[GO]at uA
  have UA:(ND.take l.length)[i]?=some [x.aY (k+Re.aN (l.take i))]:=by rw[List.getElem?_take_of_lt az];exact uA
  have fo:Re.da (l.take i)+x.fT<=Re.da l:=by
   have h1:l=l.take (i+1)++l.drop (i+1):=(List.take_append_drop _ _).symm
   have h2:Re.da l=Re.da (l.take (i+1))+Re.da (l.drop (i+1)):=by rw[<- fF,<- h1]
   rw[h2,bt hx,fF]
   simp only[Re.da]
   omega
  have KL:=Ah (l.take i) x k C []
  rw[<- bt hx]at KL
  rw[List.length_take]at Rc Q7
  rw[show RO t root parts bg nb Bs b a (fZ (l.take i) k C []).1 re k g (fZ (l.take i) k C []).2=wO t root parts bg nb Bs b a (fZ (l.take i) k C []).1++[lT re k,bd g (fZ (l.take i) k C []).2] from rfl]
  generalize VK:fZ (l.take (i+1)) k C []=Zt at *
  generalize fZ (l.take i) k C []=ST at *
  obtain⟨C1,J⟩:=ST
  simp only at Rc Q7 ⊢
  simp only[fZ]at KL
  have hw:=fun K hk=>nX (hK x hm) (k+Re.aN (l.take i)) (C:=C1++[dS 0 0]) (by rw[List.length_append,List.length_singleton];omega) (tl:=[lT re k,bd g J]) (K:=K) hk
  have vK:=fun K hk=>iM (t:=t) (root:=root) (parts:=parts) (bg:=bg) (nb:=nb) (Bs:=Bs) (b:=b) (a:=a) (C:=C1) (by omega) 2 0 0 0 (tl:=[lT re k,bd g J]) (K:=K) hk
  have NI:(x.emit (k+Re.aN (l.take i)) (C1++[dS 0 0])).length=C1.length+1+x.fT:=by rw[Re.eY,List.length_append,List.length_singleton]
  have BX:=fun K hk=>iM (t:=t) (root:=root) (parts:=parts) (bg:=bg) (nb:=nb) (Bs:=Bs) (b:=b) (a:=a) (C:=x.emit (k+Re.aN (l.take i)) (C1++[dS 0 0])) (by omega) 3 0 0 0 (tl:=[lT re k,bd g J]) (K:=K) hk
  rw[show (⟨2,0,0,0,none⟩:av)=dS 0 0 from rfl]at vK
  rw[show (⟨3,0,0,0,none⟩:av)=jN 0 from rfl]at BX
  unfold cT at hw
  generalize x.aY (k+Re.aN (l.take i))=xd at *
  generalize x.emit (k+Re.aN (l.take i)) (C1++[dS 0 0])=C3 at *
  have R0:(C3++[jN 0]).length=C3.length+1:=by simp
  generalize C3++[jN 0]=C4 at *
  generalize C1++[dS 0 0]=C2 at *
  have w1:IntKind.i64.wrap ((C1.length:Int)+1)=(C1.length:Int)+1:=br _ (by omega)
  obtain⟨y,hy⟩:∃y,C4[C1.length]?=some y:=⟨_,List.getElem?_eq_getElem (by omega)⟩
  have c0:(0:Int)<=(C1.length:Int):=by omega
  have c1:(C1.length:Int)<(C4.length:Int):=by omega
  have c2:C1.length<C4.length:=by omega
  have g1:(cr C4.length b a C4).g=C4.length:=rfl
  have g2:(cr C4.length b a C4).sz=5:=rfl
  have g3:(cr C4.length b a C4).au=C4.map (av.cells b a):=rfl
  have g4:(cr C4.length b a C4).live=true:=rfl
  simp only[zX,Nat.reduceShiftRight,Nat.reduceMod,Nat.reduceLT,Nat.reduceMul,Nat.reduceSub,Int.reduceToNat,Int.reduceNeg,Int.reduceLT,Int.reduceLE,Int.reduceEq,Nat.reduceEqDiff,Nat.reduceAdd,Nat.reduceLeDiff,reduceIte,reduceCtorEq,Nat.reduceBEq,i64,bV,iD,bD,wO,h1,h3,h4,h5,h8,h9,MB,MG,MW,aK,hi0,az,Int.toNat_natCast,UA,List.length_take,Nat.min_eq_left AE,List.cons_append,List.nil_append]
  refine vK _ ?_
  simp only[zX,Nat.reduceShiftRight,Nat.reduceMod,Nat.reduceLT,Nat.reduceMul,Nat.reduceSub,Int.reduceToNat,Int.reduceNeg,Int.reduceLT,Int.reduceLE,Int.reduceEq,Nat.reduceEqDiff,Nat.reduceAdd,Nat.reduceLeDiff,reduceIte,reduceCtorEq,Nat.reduceBEq,i64,bV,iD,bD,wO,h1,h3,h4,h5,h8,h9,MB,MG,MW,List.cons_append,List.nil_append]
  refine hw _ ?_
  simp only[zX,Nat.reduceShiftRight,Nat.reduceMod,Nat.reduceLT,Nat.reduceMul,Nat.reduceSub,Int.reduceToNat,Int.reduceNeg,Int.reduceLT,Int.reduceLE,Int.reduceEq,Nat.reduceEqDiff,Nat.reduceAdd,Nat.reduceLeDiff,reduceIte,reduceCtorEq,Nat.reduceBEq,i64,bV,iD,bD,wO,h1,h3,h4,h5,h8,h9,MB,MG,MW,List.cons_append,List.nil_append]
  refine BX _ ?_
  simp only[zX,Nat.reduceShiftRight,Nat.reduceMod,Nat.reduceLT,Nat.reduceMul,Nat.reduceSub,Int.reduceToNat,Int.reduceNeg,Int.reduceLT,Int.reduceLE,Int.reduceEq,Nat.reduceEqDiff,Nat.reduceAdd,Nat.reduceLeDiff,reduceIte,reduceCtorEq,Nat.reduceBEq,i64,bV,iD,bD,wO,bd,h1,h3,h4,h5,h8,h9,MB,MG,MW,List.cons_append,List.nil_append,List.length_map]
  refine⟨fun e he=>by rw[List.mem_singleton.1 he];rfl,⟨by omega,by omega⟩,?_⟩
  refine ar mix [] [(8,[5],[]),(9,[5],[]),(10,[5],[5]),(11,[5],[]),(12,[5],[]),(13,[5],[5])] (by rfl) ?_
  simp only[zX,Nat.reduceShiftRight,Nat.reduceMod,Nat.reduceLT,Nat.reduceMul,Nat.reduceSub,Int.reduceToNat,Int.reduceNeg,Int.reduceLT,Int.reduceLE,Int.reduceEq,Nat.reduceEqDiff,Nat.reduceAdd,Nat.reduceLeDiff,reduceIte,reduceCtorEq,Nat.reduceBEq,i64,bV,iD,bD,h1,h3,h4,h5,h8,h9,MB,MG,MW,bK,aG,ma,c0,c1,c2,g1,g2,g3,g4,hy,w1,Int.toNat_natCast,Nat.zero_add,List.length_map,List.getElem?_map,Option.map_some,av.cells]
  have e1:∀v,((C4.map (av.cells b a)).set C1.length v)[C1.length]?=some v:=fun v=>List.getElem?_set_self (by simpa using c2)
  have e2:((C4.map (av.cells b a)).set C1.length [V.d (D.sc (Value.int IntKind.i64 y.op)),V.d (D.sc (Value.int IntKind.i64 ((C1.length:Int)+1))),V.d (D.sc (Value.int IntKind.i64 y.y)),V.d (D.sc (Value.int IntKind.i64 y.n)),bQ b a y.node]).set C1.length [V.d (D.sc (Value.int IntKind.i64 y.op)),V.d (D.sc (Value.int IntKind.i64 ((C1.length:Int)+1))),V.d (D.sc (Value.int IntKind.i64 C4.length)),V.d (D.sc (Value.int IntKind.i64 y.n)),bQ b a y.node]=(u7 C4 C1.length ((C1.length:Int)+1) C4.length).map (av.cells b a):=by
   have Qy:db C4 C1.length=y:=by unfold db;rw[List.getD_eq_getElem?_getD,hy];rfl
   rw[List.set_set,u7,List.map_set,Qy]
   rfl
  have e3:List.take i (J.map fun (x:Nat)=>[V.d (D.sc (Value.int IntKind.i64 (x:Int)))])=J.map fun (x:Nat)=>[V.d (D.sc (Value.int IntKind.i64 (x:Int)))]:=List.take_of_length_le (by rw[List.length_map];omega)
  simp only[e1,List.take_succ_cons,List.take_zero,List.drop_succ_cons,List.drop_zero,List.cons_append,List.nil_append,e2,e3]
  refine⟨by simp,l.length-(i+1),_,_,by omega,bI.refl,i+1,g+1,rfl,az,?_,?_,?_,?_,?_,?_,?_,?_,?_,?_⟩ <;> (try simp only[zU,Nat.reduceBEq,Nat.reduceShiftRight,Nat.reduceMod,Nat.reduceEqDiff,reduceIte])
  ·exact h1
  ·exact h3
  ·exact h4
  ·exact h5
  ·exact h9
  ·exact MB
  ·exact MG
  ·rw[br _ (by omega)];rfl
  ·rw[VK,KL,R0]
   simp only[RO,wO,bd,ma,lq,R0,List.map_append,List.map_cons,List.map_nil,List.cons_append,List.nil_append,i64]
   rfl
 ·have eQ:i=l.length:=by omega
  subst eQ
  have V8:re.kids[l.length]?=some z:=by rw[hk];simp
  have hm:z∈re.kids:=List.mem_of_getElem? V8
  have uA:=QZ l.length z V8
  have GO:re.kids.take l.length=l:=by rw[hk];simp
  rw[GO]at uA
  have xD:=HX l k C []
  rw[List.take_length]at *
  rw[show RO t root parts bg nb Bs b a (fZ l k C []).1 re k g (fZ l k C []).2=wO t root parts bg nb Bs b a (fZ l k C []).1++[lT re k,bd g (fZ l k C []).2] from rfl]
  generalize fZ l k C []=ST at *
  obtain⟨C1,J⟩:=ST
  simp only at Rc Q7 xD ⊢
  have hw:=fun K hk=>nX (hK z hm) (k+Re.aN l) (C:=C1) (by omega) (tl:=[lT re k,bd g J]) (K:=K) hk
  have vO:=Re.eY z (k+Re.aN l) C1
  unfold cT at hw
  generalize z.aY (k+Re.aN l)=xd at *
  generalize z.emit (k+Re.aN l) C1=C2 at *
  have Yi:∀x∈J,x<C2.length:=fun x hx=>by have:=(xD x hx).resolve_left (by simp);omega
  have NI:(l.length:Int)<(ND.length:Int):=by omega
  have TC:l.length<ND.length:=by omega
  rw[ly]at hw ⊢
  simp only[zX,Nat.reduceShiftRight,Nat.reduceMod,Nat.reduceLT,Nat.reduceMul,Nat.reduceSub,Int.reduceToNat,Int.reduceNeg,Int.reduceLT,Int.reduceLE,Int.reduceEq,Nat.reduceEqDiff,Nat.reduceAdd,Nat.reduceLeDiff,reduceIte,reduceCtorEq,Nat.reduceBEq,i64,bV,iD,bD,wO,h1,h3,h4,h5,h8,h9,MB,MG,MW,Int.lt_irrefl,List.cons_append,List.nil_append]
  refine ar mix [8] [] (by rfl) ?_
  simp only[zX,Nat.reduceShiftRight,Nat.reduceMod,Nat.reduceLT,Nat.reduceMul,Nat.reduceSub,Int.reduceToNat,Int.reduceNeg,Int.reduceLT,Int.reduceLE,Int.reduceEq,Nat.reduceEqDiff,Nat.reduceAdd,Nat.reduceLeDiff,reduceIte,reduceCtorEq,Nat.reduceBEq,i64,bV,iD,bD,wO,h1,h3,h4,h5,h8,h9,MB,MG,MW,ph,B9,NI,TC,Int.toNat_natCast,uA,List.cons_append,List.nil_append]
  refine⟨by omega,?_⟩
  refine eh (hw _ ⟨rfl,rfl⟩) ?_
  clear hw xD
  rw[<- ly]
  have fP:(yI t root parts bg nb Bs b a ((J.take 0).foldl (xO C2.length) C2) re k g J)=wO t root parts bg nb Bs b a C2++[lT re k,bd g J]:=rfl
  simp only[zX,Nat.reduceShiftRight,Nat.reduceMod,Nat.reduceLT,Nat.reduceMul,Nat.reduceSub,Int.reduceToNat,Int.reduceNeg,Int.reduceLT,Int.reduceLE,Int.reduceEq,Nat.reduceEqDiff,Nat.reduceAdd,Nat.reduceLeDiff,reduceIte,reduceCtorEq,Nat.reduceBEq,i64,bV,iD,bD,h1,h3,h4,h5,h8,h9,MB,MG,MW]
  refine ay (fun n e s=>∃j:Nat,n=l.length-j/\j<=l.length/\e 4=.rf 2 0 0 0/\e 109=.so 7 g 0 l.length/\e 110=i64 l.length/\e 111=i64 j/\s=yI t root parts bg nb Bs b a ((J.take j).foldl (xO C2.length) C2) re k g J)
   ⟨_,_,_,bI.refl,0,rfl,by omega,by first|exact h4|(simp only[zU,Nat.reduceBEq,Nat.reduceShiftRight,Nat.reduceMod,Nat.reduceEqDiff,reduceIte];done)|(simp only[zU,Nat.reduceBEq,Nat.reduceShiftRight,Nat.reduceMod,Nat.reduceEqDiff,reduceIte];exact h4),by first|exact h8|(simp only[zU,Nat.reduceBEq,Nat.reduceShiftRight,Nat.reduceMod,Nat.reduceEqDiff,reduceIte];done)|(simp only[zU,Nat.reduceBEq,Nat.reduceShiftRight,Nat.reduceMod,Nat.reduceEqDiff,reduceIte];exact h8),rfl,rfl,rfl⟩ ?_
  clear h1 h3 h4 h5 h8 h9 MB MG MW
  rintro n e s ⟨j,rfl,hj,h4,QC,Pe,SS,rfl⟩
  have R8:((J.take j).foldl (xO C2.length) C2).length=C2.length:=BC _ _ _
  rcases Nat.lt_or_ge j l.length with az|ib
  ·obtain⟨x,hx⟩:∃x,J[j]?=some x:=⟨_,List.getElem?_eq_getElem (by omega)⟩
   have X6:=Yi x (List.mem_of_getElem? hx)
   have aK:(j:Int)<(l.length:Int):=by omega
   have Mu:(0:Int)<=(j:Int):=by omega
   have KL:(J.take (j+1)).foldl (xO C2.length) C2=xO C2.length ((J.take j).foldl (xO C2.length) C2) x:=by
    rw[bt hx,List.foldl_append];rfl
   rw[show yI t root parts bg nb Bs b a ((J.take j).foldl (xO C2.length) C2) re k g J=wO t root parts bg nb Bs b a ((J.take j).foldl (xO C2.length) C2)++[lT re k,bd g J] from rfl]
   generalize (J.take j).foldl (xO C2.length) C2=Dc at *
   have g1:(cr Dc.length b a Dc).g=Dc.length:=rfl
   have g2:(cr Dc.length b a Dc).sz=5:=rfl
   have g3:(cr Dc.length b a Dc).au=Dc.map (av.cells b a):=rfl
   have g4:(cr Dc.length b a Dc).live=true:=rfl
   obtain⟨y,hy⟩:∃y,Dc[x]?=some y:=⟨_,List.getElem?_eq_getElem (by omega)⟩
   have MS:x<Dc.length:=by omega
   have Li:(x:Int)<(Dc.length:Int):=by omega
   have Xu:(0:Int)<=(x:Int):=by omega
   have Qy:db Dc x=y:=by unfold db;rw[List.getD_eq_getElem?_getD,hy];rfl
   have e2:(Dc.map (av.cells b a)).set x [V.d (D.sc (Value.int IntKind.i64 y.op)),V.d (D.sc (Value.int IntKind.i64 Dc.length)),V.d (D.sc (Value.int IntKind.i64 y.y)),V.d (D.sc (Value.int IntKind.i64 y.n)),bQ b a y.node]=(xO C2.length Dc x).map (av.cells b a):=by
    rw[xO,u7,List.map_set,Qy,R8]
    rfl
   have Vs:j<J.length:=by omega
   simp only[zX,Nat.reduceShiftRight,Nat.reduceMod,Nat.reduceLT,Nat.reduceMul,Nat.reduceSub,Int.reduceToNat,Int.reduceNeg,Int.reduceLT,Int.reduceLE,Int.reduceEq,Nat.reduceEqDiff,Nat.reduceAdd,Nat.reduceLeDiff,reduceIte,reduceCtorEq,Nat.reduceBEq,i64,bV,iD,bD,wO,bd,ma,h4,QC,Pe,SS,aK,Mu,Vs,az,hx,MS,Li,Xu,hy,g1,g2,g3,g4,Int.toNat_natCast,Nat.zero_add,List.length_map,List.getElem?_map,Option.map_some,av.cells,e2,List.cons_append,List.nil_append]
   refine⟨l.length-(j+1),_,_,by omega,bI.refl,j+1,rfl,az,?_,?_,?_,?_,?_⟩ <;> (try simp only[zU,Nat.reduceBEq,Nat.reduceShiftRight,Nat.reduceMod,Nat.reduceEqDiff,reduceIte])
   ·exact h4
   ·exact QC
   ·exact Pe
   ·rw[br _ (by omega)];rfl
   ·rw[KL,<- R8]
    simp only[yI,wO,bd,ma,cr,GR,List.cons_append,List.nil_append,i64]
  ·have Lb:j=l.length:=by omega
   subst Lb
   rw[List.take_of_length_le (by omega)]
   simp only[zX,Nat.reduceShiftRight,Nat.reduceMod,Nat.reduceLT,Nat.reduceMul,Nat.reduceSub,Int.reduceToNat,Int.reduceNeg,Int.reduceLT,Int.reduceLE,Int.reduceEq,Nat.reduceEqDiff,Nat.reduceAdd,Nat.reduceLeDiff,reduceIte,reduceCtorEq,Nat.reduceBEq,i64,bV,iD,bD,h4,QC,Pe,SS,Int.lt_irrefl,yI,qo,gZ]
   rfl
end
end Go.Proofs.Ytfmdmlfhigocaaa
