/- A part of the proof (G8). -/
import Derived.Test.YtllagoeijcjpiaaBD9
set_option linter.unusedSimpArgs false
set_option linter.unusedVariables false
set_option maxRecDepth 100000
set_option maxHeartbeats 80000000
namespace Go.Proofs.Ytllagoeijcjpiaa
open Go.VL Go.Proofs.Try
theorem Jr {t:List Int}{F:Int}{n:Nat} (ih:je t F n) {g0:Nat}{ah:Int}{kind:Int}{re:Re}{k bO:Int}{next:Goal}{i:Int}{c:aq}{st st':aU}{b:Bool} (hm:re.mode=2)
  (hr:n8 F (eh t F n) ah re k next i c st=some (b,st')) :
  az prog 112 [.rf 0 g0 0 0,.d (Goal.mk kind re k bO next).d,i64 i,.d (bd c)] (b7 g0 t ah F st) fun v s=>v=bV b∧s=b7 g0 t ah F st':=by
 unfold n8 at hr
 rw[if_pos hm]at hr
 cases hx:cT (eh t F n) (.mk 1 (re.bP 0) 0 0 .nil) i c st with
 |none=>rw[hx]at hr;cases hr
 |some x =>
  obtain⟨r,s1⟩:=x
  rw[hx]at hr
  have hf:=fun ext=>uU (g0:=g0) (ah:=ah) ih hx ext
  have mZ:Goal.nil.d=.sc (.pointer none):=rfl
  have e1:(re.bP 0).op=re.op∧(re.bP 0).set=re.set∧(re.bP 0).kids=re.kids∧(re.bP 0).mn=re.mn∧(re.bP 0).mx=re.mx∧(re.bP 0).mode=0∧(re.bP 0).n=re.n∧(re.bP 0).neg=re.neg:=⟨rfl,rfl,rfl,rfl,rfl,rfl,rfl,rfl⟩
  obtain⟨a1,a2,a3,a4,a5,a6,a7,a8⟩:=e1
  unfold b7 dN at hf
  simp only[Goal.aN,mZ,a1,a2,a3,a4,a5,a6,a7,a8,i64,iD,bD,bV,Vz,Vx]at hf
  cases r with
  |none =>
   simp only[Option.some.injEq,Prod.mk.injEq]at hr
   obtain⟨rfl,rfl⟩:=hr
   unfold b7 dN
   refine av func112 rfl ntmps112 results112 rfl 3 32527 (by simp) (by simp) ?_
   simp only[zX,simprocAttr,i64,bV,Goal.aN,iD,bD,hm]
   refine aP [4] (by simp [bk,bA,aZ.go,aZ,bQ]) (aj (hf _) (fun v s' hv=>?_))
   obtain⟨rfl,rfl⟩:=hv
   simp only[zX,simprocAttr,i64,bV,iD,bD,ju]
   exact ba _ _
  |some p =>
   obtain⟨e,d⟩:=p
   simp only at hr
   have hc:=fun ext=>fo (ih g0 _ _ _ _ _ hr) ext
   unfold e8 eE b7 dN at hc;simp only[Goal.aN,i64,iD,bD,bV,Vz,Vx]at hc
   unfold b7 dN
   refine av func112 rfl ntmps112 results112 rfl 3 32527 (by simp) (by simp) ?_
   simp only[zX,simprocAttr,i64,bV,Goal.aN,iD,bD,hm]
   refine aP [4] (by simp [bk,bA,aZ.go,aZ,bQ]) (aj (hf _) (fun v s' hv=>?_))
   obtain⟨rfl,rfl⟩:=hv
   simp only[zX,simprocAttr,i64,bV,iD,bD,ju]
   refine aj (hc _) (fun v s' hv=>?_)
   obtain⟨rfl,rfl⟩:=hv
   simp only[zX,simprocAttr,i64,bV,iD,bD]
   exact ba _ _
theorem Iz {t:List Int}{F:Int}{n:Nat} (ih:je t F n) {g0:Nat}{ah:Int}{kind:Int}{re:Re}{k bO:Int}{next:Goal}{i:Int}{c:aq}{st st':aU}{b:Bool} (hm:¬re.mode=2)
  (hr:n8 F (eh t F n) ah re k next i c st=some (b,st')) :
  az prog 112 [.rf 0 g0 0 0,.d (Goal.mk kind re k bO next).d,i64 i,.d (bd c)] (b7 g0 t ah F st) fun v s=>v=bV b∧s=b7 g0 t ah F st':=by
 unfold n8 at hr
 rw[if_neg hm]at hr
 by_cases c1:st.steps<0∨10000000000000<st.steps
 ·rw[if_pos c1]at hr;cases hr
 rw[if_neg c1]at hr
 have aH:=fun ext=>Ck g0 t ah F st (by omega) (by omega) ext
 generalize st.step F=s1 at *
 unfold b7 dN at aH
 simp only[i64,bV,iD,Vz,Vx]at aH
 simp only at hr
 by_cases he:s1.empty=true
 ·rw[if_pos he]at hr
  simp only[Option.some.injEq,Prod.mk.injEq]at hr
  obtain⟨rfl,rfl⟩:=hr
  unfold b7 dN
  refine av func112 rfl ntmps112 results112 rfl 3 32527 (by simp) (by simp) ?_
  simp only[zX,simprocAttr,i64,bV,Goal.aN,iD,bD,hm]
  refine aj (aH _) (fun v s' hv=>?_)
  obtain⟨rfl,rfl⟩:=hv
  simp only[zX,simprocAttr,i64,bV,iD,bD,he,Vt,Vs]
  exact ba _ _
 have he:s1.empty=false:=by simpa using he
 rw[he]at hr
 simp only[Vw,if_false]at hr
 cases hk:re.kids with
 |nil=>rw[hk]at hr;cases hr
 |cons kid l =>
  rw[hk]at hr
  have dL:re.kids[0]?=some kid:=by rw[hk];rfl
  have dg:(0:Int)<(re.kids.length:Int):=by rw[hk,VC];omega
  clear hk
  simp only at hr
  by_cases c2:k<re.mn
  ·rw[if_pos c2]at hr
   have hc:=fun ext=>fo (ih g0 _ _ _ _ _ hr) ext
   unfold e8 eE b7 dN at hc;simp only[Goal.aN,i64,iD,bD,bV,Vz,Vx]at hc
   simp only[he]at hc
   by_cases hM:re.mx=-1∨k<re.mx
   ·
    by_cases m1:re.mx=-1
    ·have d1:decide (re.mx=-1)=true:=decide_eq_true m1
     unfold b7 dN
     refine av func112 rfl ntmps112 results112 rfl 3 32527 (by simp) (by simp) ?_
     simp only[zX,simprocAttr,i64,bV,Goal.aN,iD,bD,hm]
     refine aj (aH _) (fun v s' hv=>?_)
     obtain⟨rfl,rfl⟩:=hv
     simp only[zX,simprocAttr,i64,bV,iD,bD,he,Vt,Vs]
     refine an mix [] [] (by rfl) ?_
     simp only[zX,simprocAttr,i64,bV,iD,bD,d1]
     refine aK (bL.trans bL.aV bL.aV) ?_
     refine an mix [] [(15,[4],[4]),(17,[5],[5])] (by rfl) ?_
     simp only[zX,simprocAttr,i64,bV,iD,bD,hole,dL,dg,aw kid,Re.ae kid]
     refine an mix [] [] (by rfl) ?_
     simp only[zX,simprocAttr,i64,bV,iD,bD,c2,c2]
     refine aP [4,5] (by simp [bk,bA,aZ.go,aZ,bQ]) (aj (hc _) (fun v s' hv=>?_))
     obtain⟨rfl,rfl⟩:=hv
     simp only[zX,simprocAttr,i64,bV,iD,bD]
     exact ba _ _
    ·have d1:decide (re.mx=-1)=false:=decide_eq_false m1
     have m2:k<re.mx:=hM.resolve_left m1
     unfold b7 dN
     refine av func112 rfl ntmps112 results112 rfl 3 32527 (by simp) (by simp) ?_
     simp only[zX,simprocAttr,i64,bV,Goal.aN,iD,bD,hm]
     refine aj (aH _) (fun v s' hv=>?_)
     obtain⟨rfl,rfl⟩:=hv
     simp only[zX,simprocAttr,i64,bV,iD,bD,he,Vt,Vs]
     refine an mix [] [] (by rfl) ?_
     simp only[zX,simprocAttr,i64,bV,iD,bD,d1,m2]
     refine aK (bL.trans bL.aV bL.aV) ?_
     refine an mix [] [(15,[4],[4]),(17,[5],[5])] (by rfl) ?_
     simp only[zX,simprocAttr,i64,bV,iD,bD,hole,dL,dg,aw kid,Re.ae kid]
     refine an mix [] [] (by rfl) ?_
     simp only[zX,simprocAttr,i64,bV,iD,bD,c2,c2]
     refine aP [4,5] (by simp [bk,bA,aZ.go,aZ,bQ]) (aj (hc _) (fun v s' hv=>?_))
     obtain⟨rfl,rfl⟩:=hv
     simp only[zX,simprocAttr,i64,bV,iD,bD]
     exact ba _ _
   ·
    have d1:decide (re.mx=-1)=false:=decide_eq_false (fun h=>hM (.inl h))
    have m2:¬k<re.mx:=fun h=>hM (.inr h)
    unfold b7 dN
    refine av func112 rfl ntmps112 results112 rfl 3 32527 (by simp) (by simp) ?_
    simp only[zX,simprocAttr,i64,bV,Goal.aN,iD,bD,hm]
    refine aj (aH _) (fun v s' hv=>?_)
    obtain⟨rfl,rfl⟩:=hv
    simp only[zX,simprocAttr,i64,bV,iD,bD,he,Vt,Vs]
    refine an mix [] [] (by rfl) ?_
    simp only[zX,simprocAttr,i64,bV,iD,bD,d1,m2]
    refine aK (bL.trans bL.aV bL.aV) ?_
    refine an mix [] [(15,[4],[4]),(17,[5],[5])] (by rfl) ?_
    simp only[zX,simprocAttr,i64,bV,iD,bD,hole,dL,dg,aw kid,Re.ae kid]
    refine an mix [] [] (by rfl) ?_
    simp only[zX,simprocAttr,i64,bV,iD,bD,c2,c2]
    refine aP [4,5] (by simp [bk,bA,aZ.go,aZ,bQ]) (aj (hc _) (fun v s' hv=>?_))
    obtain⟨rfl,rfl⟩:=hv
    simp only[zX,simprocAttr,i64,bV,iD,bD]
    exact ba _ _
  rw[if_neg c2]at hr
  by_cases m3:re.mode=1
  ·have d3:decide (re.mode=1)=true:=decide_eq_true m3
   rw[if_pos m3]at hr
   cases hx:eh t F n ah (.run next i c) s1 with
   |none=>rw[hx]at hr;cases hr
   |some x =>
    obtain⟨b1,s2⟩:=x
    rw[hx]at hr
    have h1:=fun ext=>fo (ih g0 _ _ _ _ _ hx) ext
    unfold e8 eE b7 dN at h1;simp only[Goal.aN,i64,iD,bD,bV,Vz,Vx]at h1
    simp only[he]at h1
    by_cases hM:re.mx=-1∨k<re.mx
    ·simp only[if_pos hM]at hr
     cases b1 with
     |true =>
      simp only[rm,Option.some.injEq,Prod.mk.injEq]at hr
      obtain⟨rfl,rfl⟩:=hr
      by_cases m1:re.mx=-1
      ·have d1:decide (re.mx=-1)=true:=decide_eq_true m1
       unfold b7 dN
       refine av func112 rfl ntmps112 results112 rfl 3 32527 (by simp) (by simp) ?_
       simp only[zX,simprocAttr,i64,bV,Goal.aN,iD,bD,hm]
       refine aj (aH _) (fun v s' hv=>?_)
       obtain⟨rfl,rfl⟩:=hv
       simp only[zX,simprocAttr,i64,bV,iD,bD,he,Vt,Vs]
       refine an mix [] [] (by rfl) ?_
       simp only[zX,simprocAttr,i64,bV,iD,bD,d1]
       refine aK (bL.trans bL.aV bL.aV) ?_
       refine an mix [] [(15,[4],[4]),(17,[5],[5])] (by rfl) ?_
       simp only[zX,simprocAttr,i64,bV,iD,bD,hole,dL,dg,aw kid,Re.ae kid]
       refine an mix [] [] (by rfl) ?_
       simp only[zX,simprocAttr,i64,bV,iD,bD,c2,d3]
       refine aj (h1 _) (fun v s' hv=>?_)
       obtain⟨rfl,rfl⟩:=hv
       simp only[zX,simprocAttr,i64,bV,iD,bD]
       exact ba _ _
      ·have d1:decide (re.mx=-1)=false:=decide_eq_false m1
       have m2:k<re.mx:=hM.resolve_left m1
       unfold b7 dN
       refine av func112 rfl ntmps112 results112 rfl 3 32527 (by simp) (by simp) ?_
       simp only[zX,simprocAttr,i64,bV,Goal.aN,iD,bD,hm]
       refine aj (aH _) (fun v s' hv=>?_)
       obtain⟨rfl,rfl⟩:=hv
       simp only[zX,simprocAttr,i64,bV,iD,bD,he,Vt,Vs]
       refine an mix [] [] (by rfl) ?_
       simp only[zX,simprocAttr,i64,bV,iD,bD,d1,m2]
       refine aK (bL.trans bL.aV bL.aV) ?_
       refine an mix [] [(15,[4],[4]),(17,[5],[5])] (by rfl) ?_
       simp only[zX,simprocAttr,i64,bV,iD,bD,hole,dL,dg,aw kid,Re.ae kid]
       refine an mix [] [] (by rfl) ?_
       simp only[zX,simprocAttr,i64,bV,iD,bD,c2,d3]
       refine aj (h1 _) (fun v s' hv=>?_)
       obtain⟨rfl,rfl⟩:=hv
       simp only[zX,simprocAttr,i64,bV,iD,bD]
       exact ba _ _
     |false =>
      simp only[rm]at hr
      have hc:=fun ext=>fo (ih g0 _ _ _ _ _ hr) ext
      unfold e8 eE b7 dN at hc;simp only[Goal.aN,i64,iD,bD,bV,Vz,Vx]at hc
      by_cases m1:re.mx=-1
      ·have d1:decide (re.mx=-1)=true:=decide_eq_true m1
       unfold b7 dN
       refine av func112 rfl ntmps112 results112 rfl 3 32527 (by simp) (by simp) ?_
       simp only[zX,simprocAttr,i64,bV,Goal.aN,iD,bD,hm]
       refine aj (aH _) (fun v s' hv=>?_)
       obtain⟨rfl,rfl⟩:=hv
       simp only[zX,simprocAttr,i64,bV,iD,bD,he,Vt,Vs]
       refine an mix [] [] (by rfl) ?_
       simp only[zX,simprocAttr,i64,bV,iD,bD,d1]
       refine aK (bL.trans bL.aV bL.aV) ?_
       refine an mix [] [(15,[4],[4]),(17,[5],[5])] (by rfl) ?_
       simp only[zX,simprocAttr,i64,bV,iD,bD,hole,dL,dg,aw kid,Re.ae kid]
       refine an mix [] [] (by rfl) ?_
       simp only[zX,simprocAttr,i64,bV,iD,bD,c2,d3]
       refine aj (h1 _) (fun v s' hv=>?_)
       obtain⟨rfl,rfl⟩:=hv
       simp only[zX,simprocAttr,i64,bV,iD,bD]
       refine aP [4,5] (by simp [bk,bA,aZ.go,aZ,bQ]) (aj (hc _) (fun v s' hv=>?_))
       obtain⟨rfl,rfl⟩:=hv
       simp only[zX,simprocAttr,i64,bV,iD,bD]
       exact ba _ _
      ·have d1:decide (re.mx=-1)=false:=decide_eq_false m1
       have m2:k<re.mx:=hM.resolve_left m1
       unfold b7 dN
       refine av func112 rfl ntmps112 results112 rfl 3 32527 (by simp) (by simp) ?_
       simp only[zX,simprocAttr,i64,bV,Goal.aN,iD,bD,hm]
       refine aj (aH _) (fun v s' hv=>?_)
       obtain⟨rfl,rfl⟩:=hv
       simp only[zX,simprocAttr,i64,bV,iD,bD,he,Vt,Vs]
       refine an mix [] [] (by rfl) ?_
       simp only[zX,simprocAttr,i64,bV,iD,bD,d1,m2]
       refine aK (bL.trans bL.aV bL.aV) ?_
       refine an mix [] [(15,[4],[4]),(17,[5],[5])] (by rfl) ?_
       simp only[zX,simprocAttr,i64,bV,iD,bD,hole,dL,dg,aw kid,Re.ae kid]
       refine an mix [] [] (by rfl) ?_
       simp only[zX,simprocAttr,i64,bV,iD,bD,c2,d3]
       refine aj (h1 _) (fun v s' hv=>?_)
       obtain⟨rfl,rfl⟩:=hv
       simp only[zX,simprocAttr,i64,bV,iD,bD]
       refine aP [4,5] (by simp [bk,bA,aZ.go,aZ,bQ]) (aj (hc _) (fun v s' hv=>?_))
       obtain⟨rfl,rfl⟩:=hv
       simp only[zX,simprocAttr,i64,bV,iD,bD]
       exact ba _ _
    ·simp only[if_neg hM]at hr
     cases b1 with
     |true =>
      simp only[rm,Option.some.injEq,Prod.mk.injEq]at hr
      obtain⟨rfl,rfl⟩:=hr
      have d1:decide (re.mx=-1)=false:=decide_eq_false (fun h=>hM (.inl h))
      have m2:¬k<re.mx:=fun h=>hM (.inr h)
      unfold b7 dN
      refine av func112 rfl ntmps112 results112 rfl 3 32527 (by simp) (by simp) ?_
      simp only[zX,simprocAttr,i64,bV,Goal.aN,iD,bD,hm]
      refine aj (aH _) (fun v s' hv=>?_)
      obtain⟨rfl,rfl⟩:=hv
      simp only[zX,simprocAttr,i64,bV,iD,bD,he,Vt,Vs]
      refine an mix [] [] (by rfl) ?_
      simp only[zX,simprocAttr,i64,bV,iD,bD,d1,m2]
      refine aK (bL.trans bL.aV bL.aV) ?_
      refine an mix [] [(15,[4],[4]),(17,[5],[5])] (by rfl) ?_
      simp only[zX,simprocAttr,i64,bV,iD,bD,hole,dL,dg,aw kid,Re.ae kid]
      refine an mix [] [] (by rfl) ?_
      simp only[zX,simprocAttr,i64,bV,iD,bD,c2,d3]
      refine aj (h1 _) (fun v s' hv=>?_)
      obtain⟨rfl,rfl⟩:=hv
      simp only[zX,simprocAttr,i64,bV,iD,bD]
      exact ba _ _
     |false =>
      simp only[rm,Option.some.injEq,Prod.mk.injEq]at hr
      obtain⟨rfl,rfl⟩:=hr
      have d1:decide (re.mx=-1)=false:=decide_eq_false (fun h=>hM (.inl h))
      have m2:¬k<re.mx:=fun h=>hM (.inr h)
      unfold b7 dN
      refine av func112 rfl ntmps112 results112 rfl 3 32527 (by simp) (by simp) ?_
      simp only[zX,simprocAttr,i64,bV,Goal.aN,iD,bD,hm]
      refine aj (aH _) (fun v s' hv=>?_)
      obtain⟨rfl,rfl⟩:=hv
      simp only[zX,simprocAttr,i64,bV,iD,bD,he,Vt,Vs]
      refine an mix [] [] (by rfl) ?_
      simp only[zX,simprocAttr,i64,bV,iD,bD,d1,m2]
      refine aK (bL.trans bL.aV bL.aV) ?_
      refine an mix [] [(15,[4],[4]),(17,[5],[5])] (by rfl) ?_
      simp only[zX,simprocAttr,i64,bV,iD,bD,hole,dL,dg,aw kid,Re.ae kid]
      refine an mix [] [] (by rfl) ?_
      simp only[zX,simprocAttr,i64,bV,iD,bD,c2,d3]
      refine aj (h1 _) (fun v s' hv=>?_)
      obtain⟨rfl,rfl⟩:=hv
      simp only[zX,simprocAttr,i64,bV,iD,bD]
      exact ba _ _
  ·have d3:decide (re.mode=1)=false:=decide_eq_false m3
   rw[if_neg m3]at hr
   by_cases hM:re.mx=-1∨k<re.mx
   ·simp only[if_pos hM]at hr
    cases hx:eh t F n ah (.run (.mk 0 kid 0 0 (.mk 2 re k i next)) i c) s1 with
    |none=>rw[hx]at hr;cases hr
    |some x =>
     obtain⟨b1,s2⟩:=x
     rw[hx]at hr
     have h1:=fun ext=>fo (ih g0 _ _ _ _ _ hx) ext
     unfold e8 eE b7 dN at h1;simp only[Goal.aN,i64,iD,bD,bV,Vz,Vx]at h1
     simp only[he]at h1
     cases b1 with
     |true =>
      simp only[rm,Option.some.injEq,Prod.mk.injEq]at hr
      obtain⟨rfl,rfl⟩:=hr
      by_cases m1:re.mx=-1
      ·have d1:decide (re.mx=-1)=true:=decide_eq_true m1
       unfold b7 dN
       refine av func112 rfl ntmps112 results112 rfl 3 32527 (by simp) (by simp) ?_
       simp only[zX,simprocAttr,i64,bV,Goal.aN,iD,bD,hm]
       refine aj (aH _) (fun v s' hv=>?_)
       obtain⟨rfl,rfl⟩:=hv
       simp only[zX,simprocAttr,i64,bV,iD,bD,he,Vt,Vs]
       refine an mix [] [] (by rfl) ?_
       simp only[zX,simprocAttr,i64,bV,iD,bD,d1]
       refine aK (bL.trans bL.aV bL.aV) ?_
       refine an mix [] [(15,[4],[4]),(17,[5],[5])] (by rfl) ?_
       simp only[zX,simprocAttr,i64,bV,iD,bD,hole,dL,dg,aw kid,Re.ae kid]
       refine an mix [] [] (by rfl) ?_
       simp only[zX,simprocAttr,i64,bV,iD,bD,c2,d3]
       refine aP [4,5] (by simp [bk,bA,aZ.go,aZ,bQ]) (aj (h1 _) (fun v s' hv=>?_))
       obtain⟨rfl,rfl⟩:=hv
       simp only[zX,simprocAttr,i64,bV,iD,bD]
       exact ba _ _
      ·have d1:decide (re.mx=-1)=false:=decide_eq_false m1
       have m2:k<re.mx:=hM.resolve_left m1
       unfold b7 dN
       refine av func112 rfl ntmps112 results112 rfl 3 32527 (by simp) (by simp) ?_
       simp only[zX,simprocAttr,i64,bV,Goal.aN,iD,bD,hm]
       refine aj (aH _) (fun v s' hv=>?_)
       obtain⟨rfl,rfl⟩:=hv
       simp only[zX,simprocAttr,i64,bV,iD,bD,he,Vt,Vs]
       refine an mix [] [] (by rfl) ?_
       simp only[zX,simprocAttr,i64,bV,iD,bD,d1,m2]
       refine aK (bL.trans bL.aV bL.aV) ?_
       refine an mix [] [(15,[4],[4]),(17,[5],[5])] (by rfl) ?_
       simp only[zX,simprocAttr,i64,bV,iD,bD,hole,dL,dg,aw kid,Re.ae kid]
       refine an mix [] [] (by rfl) ?_
       simp only[zX,simprocAttr,i64,bV,iD,bD,c2,d3]
       refine aP [4,5] (by simp [bk,bA,aZ.go,aZ,bQ]) (aj (h1 _) (fun v s' hv=>?_))
       obtain⟨rfl,rfl⟩:=hv
       simp only[zX,simprocAttr,i64,bV,iD,bD]
       exact ba _ _
     |false =>
      simp only[rm]at hr
      have hc:=fun ext=>fo (ih g0 _ _ _ _ _ hr) ext
      unfold e8 eE b7 dN at hc;simp only[Goal.aN,i64,iD,bD,bV,Vz,Vx]at hc
      by_cases m1:re.mx=-1
      ·have d1:decide (re.mx=-1)=true:=decide_eq_true m1
       unfold b7 dN
       refine av func112 rfl ntmps112 results112 rfl 3 32527 (by simp) (by simp) ?_
       simp only[zX,simprocAttr,i64,bV,Goal.aN,iD,bD,hm]
       refine aj (aH _) (fun v s' hv=>?_)
       obtain⟨rfl,rfl⟩:=hv
       simp only[zX,simprocAttr,i64,bV,iD,bD,he,Vt,Vs]
       refine an mix [] [] (by rfl) ?_
       simp only[zX,simprocAttr,i64,bV,iD,bD,d1]
       refine aK (bL.trans bL.aV bL.aV) ?_
       refine an mix [] [(15,[4],[4]),(17,[5],[5])] (by rfl) ?_
       simp only[zX,simprocAttr,i64,bV,iD,bD,hole,dL,dg,aw kid,Re.ae kid]
       refine an mix [] [] (by rfl) ?_
       simp only[zX,simprocAttr,i64,bV,iD,bD,c2,d3]
       refine aP [4,5] (by simp [bk,bA,aZ.go,aZ,bQ]) (aj (h1 _) (fun v s' hv=>?_))
       obtain⟨rfl,rfl⟩:=hv
       simp only[zX,simprocAttr,i64,bV,iD,bD]
       refine aj (hc _) (fun v s' hv=>?_)
       obtain⟨rfl,rfl⟩:=hv
       simp only[zX,simprocAttr,i64,bV,iD,bD]
       exact ba _ _
      ·have d1:decide (re.mx=-1)=false:=decide_eq_false m1
       have m2:k<re.mx:=hM.resolve_left m1
       unfold b7 dN
       refine av func112 rfl ntmps112 results112 rfl 3 32527 (by simp) (by simp) ?_
       simp only[zX,simprocAttr,i64,bV,Goal.aN,iD,bD,hm]
       refine aj (aH _) (fun v s' hv=>?_)
       obtain⟨rfl,rfl⟩:=hv
       simp only[zX,simprocAttr,i64,bV,iD,bD,he,Vt,Vs]
       refine an mix [] [] (by rfl) ?_
       simp only[zX,simprocAttr,i64,bV,iD,bD,d1,m2]
       refine aK (bL.trans bL.aV bL.aV) ?_
       refine an mix [] [(15,[4],[4]),(17,[5],[5])] (by rfl) ?_
       simp only[zX,simprocAttr,i64,bV,iD,bD,hole,dL,dg,aw kid,Re.ae kid]
       refine an mix [] [] (by rfl) ?_
       simp only[zX,simprocAttr,i64,bV,iD,bD,c2,d3]
       refine aP [4,5] (by simp [bk,bA,aZ.go,aZ,bQ]) (aj (h1 _) (fun v s' hv=>?_))
       obtain⟨rfl,rfl⟩:=hv
       simp only[zX,simprocAttr,i64,bV,iD,bD]
       refine aj (hc _) (fun v s' hv=>?_)
       obtain⟨rfl,rfl⟩:=hv
       simp only[zX,simprocAttr,i64,bV,iD,bD]
       exact ba _ _
   ·simp only[if_neg hM,rm]at hr
    have hc:=fun ext=>fo (ih g0 _ _ _ _ _ hr) ext
    unfold e8 eE b7 dN at hc;simp only[Goal.aN,i64,iD,bD,bV,Vz,Vx]at hc
    simp only[he]at hc
    have d1:decide (re.mx=-1)=false:=decide_eq_false (fun h=>hM (.inl h))
    have m2:¬k<re.mx:=fun h=>hM (.inr h)
    unfold b7 dN
    refine av func112 rfl ntmps112 results112 rfl 3 32527 (by simp) (by simp) ?_
    simp only[zX,simprocAttr,i64,bV,Goal.aN,iD,bD,hm]
    refine aj (aH _) (fun v s' hv=>?_)
    obtain⟨rfl,rfl⟩:=hv
    simp only[zX,simprocAttr,i64,bV,iD,bD,he,Vt,Vs]
    refine an mix [] [] (by rfl) ?_
    simp only[zX,simprocAttr,i64,bV,iD,bD,d1,m2]
    refine aK (bL.trans bL.aV bL.aV) ?_
    refine an mix [] [(15,[4],[4]),(17,[5],[5])] (by rfl) ?_
    simp only[zX,simprocAttr,i64,bV,iD,bD,hole,dL,dg,aw kid,Re.ae kid]
    refine an mix [] [] (by rfl) ?_
    simp only[zX,simprocAttr,i64,bV,iD,bD,c2,d3]
    refine aj (hc _) (fun v s' hv=>?_)
    obtain⟨rfl,rfl⟩:=hv
    simp only[zX,simprocAttr,i64,bV,iD,bD]
    exact ba _ _
end Go.Proofs.Ytllagoeijcjpiaa
