/- A part of the proof (G8). -/
import Derived.Test.YtfmdmlfhigocaaaOF17
set_option linter.unusedSimpArgs false
set_option linter.unusedVariables false
set_option maxRecDepth 100000
set_option maxHeartbeats 80000000
namespace Go.Proofs.Ytfmdmlfhigocaaa
open Go.VL Go.Proofs.Try
theorem KT {t:List Int}{F:Int}{n:Nat} (ih:ja t F n) {g0:Nat}{most:Int}{kind:Int}{re:Re}{k eA:Int}{next:Goal}{i:Int}{c:aE}{st st':bq}{b:Bool} (hm:re.mode=2)
  (hr:vA F (fG t F n) most re k next i c st=some (b,st')) :
  aq prog 80 [.rf 0 g0 0 0,.d (Goal.mk kind re k eA next).d,i64 i,.d (cy c)] (bF g0 t most F st) fun v s=>v=bV b/\s=bF g0 t most F st':=by
 unfold vA at hr
 rw[if_pos hm]at hr
 cases hx:ff (fG t F n) (.mk 1 (re.eo 0) 0 0 .nil) i c st with
 |none=>rw[hx]at hr;cases hr
 |some x =>
  obtain⟨r,s1⟩:=x
  rw[hx]at hr
  have hf:=fun ext=>wh (g0:=g0) (most:=most) ih hx ext
  have G0:Goal.nil.d=.sc (.pointer none):=rfl
  have e1:(re.eo 0).op=re.op/\(re.eo 0).set=re.set/\(re.eo 0).kids=re.kids/\(re.eo 0).mn=re.mn/\(re.eo 0).mx=re.mx/\(re.eo 0).mode=0/\(re.eo 0).n=re.n/\(re.eo 0).neg=re.neg:=⟨rfl,rfl,rfl,rfl,rfl,rfl,rfl,rfl⟩
  obtain⟨a1,a2,a3,a4,a5,a6,a7,a8⟩:=e1
  unfold bF cW at hf
  simp only[Goal.bN,G0,a1,a2,a3,a4,a5,a6,a7,a8,i64,iD,bD,bV,List.cons_append,List.nil_append]at hf
  cases r with
  |none =>
   simp only[Option.some.injEq,Prod.mk.injEq]at hr
   obtain⟨rfl,rfl⟩:=hr
   unfold bF cW
   refine an func80 rfl ntmps80 results80 rfl 3 32527 (by simp) (by simp) ?_
   simp only[zX,simprocAttr,i64,bV,Goal.bN,iD,bD,hm]
   refine bA [4] (by simp [ca,bS,bh.go,bh,cA]) (ak (hf _) (fun v s' hv=>?_))
   obtain⟨rfl,rfl⟩:=hv
   simp only[zX,simprocAttr,i64,bV,iD,bD,jz]
   exact aI _ _
  |some p =>
   obtain⟨e,d⟩:=p
   simp only at hr
   have hc:=fun ext=>eG (ih g0 _ _ _ _ _ hr) ext
   unfold ey dL bF cW at hc;simp only[Goal.bN,i64,iD,bD,bV,List.cons_append,List.nil_append]at hc
   unfold bF cW
   refine an func80 rfl ntmps80 results80 rfl 3 32527 (by simp) (by simp) ?_
   simp only[zX,simprocAttr,i64,bV,Goal.bN,iD,bD,hm]
   refine bA [4] (by simp [ca,bS,bh.go,bh,cA]) (ak (hf _) (fun v s' hv=>?_))
   obtain⟨rfl,rfl⟩:=hv
   simp only[zX,simprocAttr,i64,bV,iD,bD,jz]
   refine ak (hc _) (fun v s' hv=>?_)
   obtain⟨rfl,rfl⟩:=hv
   simp only[zX,simprocAttr,i64,bV,iD,bD]
   exact aI _ _
theorem J2 {t:List Int}{F:Int}{n:Nat} (ih:ja t F n) {g0:Nat}{most:Int}{kind:Int}{re:Re}{k eA:Int}{next:Goal}{i:Int}{c:aE}{st st':bq}{b:Bool} (hm:¬re.mode=2)
  (hr:vA F (fG t F n) most re k next i c st=some (b,st')) :
  aq prog 80 [.rf 0 g0 0 0,.d (Goal.mk kind re k eA next).d,i64 i,.d (cy c)] (bF g0 t most F st) fun v s=>v=bV b/\s=bF g0 t most F st':=by
 unfold vA at hr
 rw[if_neg hm]at hr
 by_cases c1:st.steps<0\/10000000000000<st.steps
 ·rw[if_pos c1]at hr;cases hr
 rw[if_neg c1]at hr
 have ct:=fun ext=>DQ g0 t most F st (by omega) (by omega) ext
 generalize st.step F=s1 at *
 unfold bF cW at ct
 simp only[i64,bV,iD,List.cons_append,List.nil_append]at ct
 simp only at hr
 by_cases he:s1.empty=true
 ·rw[if_pos he]at hr
  simp only[Option.some.injEq,Prod.mk.injEq]at hr
  obtain⟨rfl,rfl⟩:=hr
  unfold bF cW
  refine an func80 rfl ntmps80 results80 rfl 3 32527 (by simp) (by simp) ?_
  simp only[zX,simprocAttr,i64,bV,Goal.bN,iD,bD,hm]
  refine ak (ct _) (fun v s' hv=>?_)
  obtain⟨rfl,rfl⟩:=hv
  simp only[zX,simprocAttr,i64,bV,iD,bD,he,Bool.not_false,Bool.not_true]
  exact aI _ _
 have he:s1.empty=false:=by simpa using he
 rw[he]at hr
 simp only[Bool.false_eq_true,if_false]at hr
 cases hk:re.kids with
 |nil=>rw[hk]at hr;cases hr
 |cons kid l =>
  rw[hk]at hr
  have nT:re.kids[0]?=some kid:=by rw[hk];rfl
  have ph:(0:Int)<(re.kids.length:Int):=by rw[hk,List.length_cons];omega
  clear hk
  simp only at hr
  by_cases c2:k<re.mn
  ·rw[if_pos c2]at hr
   have hc:=fun ext=>eG (ih g0 _ _ _ _ _ hr) ext
   unfold ey dL bF cW at hc;simp only[Goal.bN,i64,iD,bD,bV,List.cons_append,List.nil_append]at hc
   simp only[he]at hc
   by_cases hM:re.mx=-1\/k<re.mx
   ·
    by_cases m1:re.mx=-1
    ·have d1:decide (re.mx=-1)=true:=decide_eq_true m1
     unfold bF cW
     refine an func80 rfl ntmps80 results80 rfl 3 32527 (by simp) (by simp) ?_
     simp only[zX,simprocAttr,i64,bV,Goal.bN,iD,bD,hm]
     refine ak (ct _) (fun v s' hv=>?_)
     obtain⟨rfl,rfl⟩:=hv
     simp only[zX,simprocAttr,i64,bV,iD,bD,he,Bool.not_false,Bool.not_true]
     refine ar mix [] [] (by rfl) ?_
     simp only[zX,simprocAttr,i64,bV,iD,bD,d1]
     refine aT (bZ.trans bZ.bk bZ.bk) ?_
     refine ar mix [] [(15,[4],[4]),(17,[5],[5])] (by rfl) ?_
     simp only[zX,simprocAttr,i64,bV,iD,bD,hole,nT,ph,aj kid,Re.ae kid]
     refine ar mix [] [] (by rfl) ?_
     simp only[zX,simprocAttr,i64,bV,iD,bD,c2,c2]
     refine bA [4,5] (by simp [ca,bS,bh.go,bh,cA]) (ak (hc _) (fun v s' hv=>?_))
     obtain⟨rfl,rfl⟩:=hv
     simp only[zX,simprocAttr,i64,bV,iD,bD]
     exact aI _ _
    ·have d1:decide (re.mx=-1)=false:=decide_eq_false m1
     have m2:k<re.mx:=hM.resolve_left m1
     unfold bF cW
     refine an func80 rfl ntmps80 results80 rfl 3 32527 (by simp) (by simp) ?_
     simp only[zX,simprocAttr,i64,bV,Goal.bN,iD,bD,hm]
     refine ak (ct _) (fun v s' hv=>?_)
     obtain⟨rfl,rfl⟩:=hv
     simp only[zX,simprocAttr,i64,bV,iD,bD,he,Bool.not_false,Bool.not_true]
     refine ar mix [] [] (by rfl) ?_
     simp only[zX,simprocAttr,i64,bV,iD,bD,d1,m2]
     refine aT (bZ.trans bZ.bk bZ.bk) ?_
     refine ar mix [] [(15,[4],[4]),(17,[5],[5])] (by rfl) ?_
     simp only[zX,simprocAttr,i64,bV,iD,bD,hole,nT,ph,aj kid,Re.ae kid]
     refine ar mix [] [] (by rfl) ?_
     simp only[zX,simprocAttr,i64,bV,iD,bD,c2,c2]
     refine bA [4,5] (by simp [ca,bS,bh.go,bh,cA]) (ak (hc _) (fun v s' hv=>?_))
     obtain⟨rfl,rfl⟩:=hv
     simp only[zX,simprocAttr,i64,bV,iD,bD]
     exact aI _ _
   ·
    have d1:decide (re.mx=-1)=false:=decide_eq_false (fun h=>hM (.inl h))
    have m2:¬k<re.mx:=fun h=>hM (.inr h)
    unfold bF cW
    refine an func80 rfl ntmps80 results80 rfl 3 32527 (by simp) (by simp) ?_
    simp only[zX,simprocAttr,i64,bV,Goal.bN,iD,bD,hm]
    refine ak (ct _) (fun v s' hv=>?_)
    obtain⟨rfl,rfl⟩:=hv
    simp only[zX,simprocAttr,i64,bV,iD,bD,he,Bool.not_false,Bool.not_true]
    refine ar mix [] [] (by rfl) ?_
    simp only[zX,simprocAttr,i64,bV,iD,bD,d1,m2]
    refine aT (bZ.trans bZ.bk bZ.bk) ?_
    refine ar mix [] [(15,[4],[4]),(17,[5],[5])] (by rfl) ?_
    simp only[zX,simprocAttr,i64,bV,iD,bD,hole,nT,ph,aj kid,Re.ae kid]
    refine ar mix [] [] (by rfl) ?_
    simp only[zX,simprocAttr,i64,bV,iD,bD,c2,c2]
    refine bA [4,5] (by simp [ca,bS,bh.go,bh,cA]) (ak (hc _) (fun v s' hv=>?_))
    obtain⟨rfl,rfl⟩:=hv
    simp only[zX,simprocAttr,i64,bV,iD,bD]
    exact aI _ _
  rw[if_neg c2]at hr
  by_cases m3:re.mode=1
  ·have d3:decide (re.mode=1)=true:=decide_eq_true m3
   rw[if_pos m3]at hr
   cases hx:fG t F n most (.run next i c) s1 with
   |none=>rw[hx]at hr;cases hr
   |some x =>
    obtain⟨b1,s2⟩:=x
    rw[hx]at hr
    have h1:=fun ext=>eG (ih g0 _ _ _ _ _ hx) ext
    unfold ey dL bF cW at h1;simp only[Goal.bN,i64,iD,bD,bV,List.cons_append,List.nil_append]at h1
    simp only[he]at h1
    by_cases hM:re.mx=-1\/k<re.mx
    ·simp only[if_pos hM]at hr
     cases b1 with
     |true =>
      simp only[FJ,Option.some.injEq,Prod.mk.injEq]at hr
      obtain⟨rfl,rfl⟩:=hr
      by_cases m1:re.mx=-1
      ·have d1:decide (re.mx=-1)=true:=decide_eq_true m1
       unfold bF cW
       refine an func80 rfl ntmps80 results80 rfl 3 32527 (by simp) (by simp) ?_
       simp only[zX,simprocAttr,i64,bV,Goal.bN,iD,bD,hm]
       refine ak (ct _) (fun v s' hv=>?_)
       obtain⟨rfl,rfl⟩:=hv
       simp only[zX,simprocAttr,i64,bV,iD,bD,he,Bool.not_false,Bool.not_true]
       refine ar mix [] [] (by rfl) ?_
       simp only[zX,simprocAttr,i64,bV,iD,bD,d1]
       refine aT (bZ.trans bZ.bk bZ.bk) ?_
       refine ar mix [] [(15,[4],[4]),(17,[5],[5])] (by rfl) ?_
       simp only[zX,simprocAttr,i64,bV,iD,bD,hole,nT,ph,aj kid,Re.ae kid]
       refine ar mix [] [] (by rfl) ?_
       simp only[zX,simprocAttr,i64,bV,iD,bD,c2,d3]
       refine ak (h1 _) (fun v s' hv=>?_)
       obtain⟨rfl,rfl⟩:=hv
       simp only[zX,simprocAttr,i64,bV,iD,bD]
       exact aI _ _
      ·have d1:decide (re.mx=-1)=false:=decide_eq_false m1
       have m2:k<re.mx:=hM.resolve_left m1
       unfold bF cW
       refine an func80 rfl ntmps80 results80 rfl 3 32527 (by simp) (by simp) ?_
       simp only[zX,simprocAttr,i64,bV,Goal.bN,iD,bD,hm]
       refine ak (ct _) (fun v s' hv=>?_)
       obtain⟨rfl,rfl⟩:=hv
       simp only[zX,simprocAttr,i64,bV,iD,bD,he,Bool.not_false,Bool.not_true]
       refine ar mix [] [] (by rfl) ?_
       simp only[zX,simprocAttr,i64,bV,iD,bD,d1,m2]
       refine aT (bZ.trans bZ.bk bZ.bk) ?_
       refine ar mix [] [(15,[4],[4]),(17,[5],[5])] (by rfl) ?_
       simp only[zX,simprocAttr,i64,bV,iD,bD,hole,nT,ph,aj kid,Re.ae kid]
       refine ar mix [] [] (by rfl) ?_
       simp only[zX,simprocAttr,i64,bV,iD,bD,c2,d3]
       refine ak (h1 _) (fun v s' hv=>?_)
       obtain⟨rfl,rfl⟩:=hv
       simp only[zX,simprocAttr,i64,bV,iD,bD]
       exact aI _ _
     |false =>
      simp only[FJ]at hr
      have hc:=fun ext=>eG (ih g0 _ _ _ _ _ hr) ext
      unfold ey dL bF cW at hc;simp only[Goal.bN,i64,iD,bD,bV,List.cons_append,List.nil_append]at hc
      by_cases m1:re.mx=-1
      ·have d1:decide (re.mx=-1)=true:=decide_eq_true m1
       unfold bF cW
       refine an func80 rfl ntmps80 results80 rfl 3 32527 (by simp) (by simp) ?_
       simp only[zX,simprocAttr,i64,bV,Goal.bN,iD,bD,hm]
       refine ak (ct _) (fun v s' hv=>?_)
       obtain⟨rfl,rfl⟩:=hv
       simp only[zX,simprocAttr,i64,bV,iD,bD,he,Bool.not_false,Bool.not_true]
       refine ar mix [] [] (by rfl) ?_
       simp only[zX,simprocAttr,i64,bV,iD,bD,d1]
       refine aT (bZ.trans bZ.bk bZ.bk) ?_
       refine ar mix [] [(15,[4],[4]),(17,[5],[5])] (by rfl) ?_
       simp only[zX,simprocAttr,i64,bV,iD,bD,hole,nT,ph,aj kid,Re.ae kid]
       refine ar mix [] [] (by rfl) ?_
       simp only[zX,simprocAttr,i64,bV,iD,bD,c2,d3]
       refine ak (h1 _) (fun v s' hv=>?_)
       obtain⟨rfl,rfl⟩:=hv
       simp only[zX,simprocAttr,i64,bV,iD,bD]
       refine bA [4,5] (by simp [ca,bS,bh.go,bh,cA]) (ak (hc _) (fun v s' hv=>?_))
       obtain⟨rfl,rfl⟩:=hv
       simp only[zX,simprocAttr,i64,bV,iD,bD]
       exact aI _ _
      ·have d1:decide (re.mx=-1)=false:=decide_eq_false m1
       have m2:k<re.mx:=hM.resolve_left m1
       unfold bF cW
       refine an func80 rfl ntmps80 results80 rfl 3 32527 (by simp) (by simp) ?_
       simp only[zX,simprocAttr,i64,bV,Goal.bN,iD,bD,hm]
       refine ak (ct _) (fun v s' hv=>?_)
       obtain⟨rfl,rfl⟩:=hv
       simp only[zX,simprocAttr,i64,bV,iD,bD,he,Bool.not_false,Bool.not_true]
       refine ar mix [] [] (by rfl) ?_
       simp only[zX,simprocAttr,i64,bV,iD,bD,d1,m2]
       refine aT (bZ.trans bZ.bk bZ.bk) ?_
       refine ar mix [] [(15,[4],[4]),(17,[5],[5])] (by rfl) ?_
       simp only[zX,simprocAttr,i64,bV,iD,bD,hole,nT,ph,aj kid,Re.ae kid]
       refine ar mix [] [] (by rfl) ?_
       simp only[zX,simprocAttr,i64,bV,iD,bD,c2,d3]
       refine ak (h1 _) (fun v s' hv=>?_)
       obtain⟨rfl,rfl⟩:=hv
       simp only[zX,simprocAttr,i64,bV,iD,bD]
       refine bA [4,5] (by simp [ca,bS,bh.go,bh,cA]) (ak (hc _) (fun v s' hv=>?_))
       obtain⟨rfl,rfl⟩:=hv
       simp only[zX,simprocAttr,i64,bV,iD,bD]
       exact aI _ _
    ·simp only[if_neg hM]at hr
     cases b1 with
     |true =>
      simp only[FJ,Option.some.injEq,Prod.mk.injEq]at hr
      obtain⟨rfl,rfl⟩:=hr
      have d1:decide (re.mx=-1)=false:=decide_eq_false (fun h=>hM (.inl h))
      have m2:¬k<re.mx:=fun h=>hM (.inr h)
      unfold bF cW
      refine an func80 rfl ntmps80 results80 rfl 3 32527 (by simp) (by simp) ?_
      simp only[zX,simprocAttr,i64,bV,Goal.bN,iD,bD,hm]
      refine ak (ct _) (fun v s' hv=>?_)
      obtain⟨rfl,rfl⟩:=hv
      simp only[zX,simprocAttr,i64,bV,iD,bD,he,Bool.not_false,Bool.not_true]
      refine ar mix [] [] (by rfl) ?_
      simp only[zX,simprocAttr,i64,bV,iD,bD,d1,m2]
      refine aT (bZ.trans bZ.bk bZ.bk) ?_
      refine ar mix [] [(15,[4],[4]),(17,[5],[5])] (by rfl) ?_
      simp only[zX,simprocAttr,i64,bV,iD,bD,hole,nT,ph,aj kid,Re.ae kid]
      refine ar mix [] [] (by rfl) ?_
      simp only[zX,simprocAttr,i64,bV,iD,bD,c2,d3]
      refine ak (h1 _) (fun v s' hv=>?_)
      obtain⟨rfl,rfl⟩:=hv
      simp only[zX,simprocAttr,i64,bV,iD,bD]
      exact aI _ _
     |false =>
      simp only[FJ,Option.some.injEq,Prod.mk.injEq]at hr
      obtain⟨rfl,rfl⟩:=hr
      have d1:decide (re.mx=-1)=false:=decide_eq_false (fun h=>hM (.inl h))
      have m2:¬k<re.mx:=fun h=>hM (.inr h)
      unfold bF cW
      refine an func80 rfl ntmps80 results80 rfl 3 32527 (by simp) (by simp) ?_
      simp only[zX,simprocAttr,i64,bV,Goal.bN,iD,bD,hm]
      refine ak (ct _) (fun v s' hv=>?_)
      obtain⟨rfl,rfl⟩:=hv
      simp only[zX,simprocAttr,i64,bV,iD,bD,he,Bool.not_false,Bool.not_true]
      refine ar mix [] [] (by rfl) ?_
      simp only[zX,simprocAttr,i64,bV,iD,bD,d1,m2]
      refine aT (bZ.trans bZ.bk bZ.bk) ?_
      refine ar mix [] [(15,[4],[4]),(17,[5],[5])] (by rfl) ?_
      simp only[zX,simprocAttr,i64,bV,iD,bD,hole,nT,ph,aj kid,Re.ae kid]
      refine ar mix [] [] (by rfl) ?_
      simp only[zX,simprocAttr,i64,bV,iD,bD,c2,d3]
      refine ak (h1 _) (fun v s' hv=>?_)
      obtain⟨rfl,rfl⟩:=hv
      simp only[zX,simprocAttr,i64,bV,iD,bD]
      exact aI _ _
  ·have d3:decide (re.mode=1)=false:=decide_eq_false m3
   rw[if_neg m3]at hr
   by_cases hM:re.mx=-1\/k<re.mx
   ·simp only[if_pos hM]at hr
    cases hx:fG t F n most (.run (.mk 0 kid 0 0 (.mk 2 re k i next)) i c) s1 with
    |none=>rw[hx]at hr;cases hr
    |some x =>
     obtain⟨b1,s2⟩:=x
     rw[hx]at hr
     have h1:=fun ext=>eG (ih g0 _ _ _ _ _ hx) ext
     unfold ey dL bF cW at h1;simp only[Goal.bN,i64,iD,bD,bV,List.cons_append,List.nil_append]at h1
     simp only[he]at h1
     cases b1 with
     |true =>
      simp only[FJ,Option.some.injEq,Prod.mk.injEq]at hr
      obtain⟨rfl,rfl⟩:=hr
      by_cases m1:re.mx=-1
      ·have d1:decide (re.mx=-1)=true:=decide_eq_true m1
       unfold bF cW
       refine an func80 rfl ntmps80 results80 rfl 3 32527 (by simp) (by simp) ?_
       simp only[zX,simprocAttr,i64,bV,Goal.bN,iD,bD,hm]
       refine ak (ct _) (fun v s' hv=>?_)
       obtain⟨rfl,rfl⟩:=hv
       simp only[zX,simprocAttr,i64,bV,iD,bD,he,Bool.not_false,Bool.not_true]
       refine ar mix [] [] (by rfl) ?_
       simp only[zX,simprocAttr,i64,bV,iD,bD,d1]
       refine aT (bZ.trans bZ.bk bZ.bk) ?_
       refine ar mix [] [(15,[4],[4]),(17,[5],[5])] (by rfl) ?_
       simp only[zX,simprocAttr,i64,bV,iD,bD,hole,nT,ph,aj kid,Re.ae kid]
       refine ar mix [] [] (by rfl) ?_
       simp only[zX,simprocAttr,i64,bV,iD,bD,c2,d3]
       refine bA [4,5] (by simp [ca,bS,bh.go,bh,cA]) (ak (h1 _) (fun v s' hv=>?_))
       obtain⟨rfl,rfl⟩:=hv
       simp only[zX,simprocAttr,i64,bV,iD,bD]
       exact aI _ _
      ·have d1:decide (re.mx=-1)=false:=decide_eq_false m1
       have m2:k<re.mx:=hM.resolve_left m1
       unfold bF cW
       refine an func80 rfl ntmps80 results80 rfl 3 32527 (by simp) (by simp) ?_
       simp only[zX,simprocAttr,i64,bV,Goal.bN,iD,bD,hm]
       refine ak (ct _) (fun v s' hv=>?_)
       obtain⟨rfl,rfl⟩:=hv
       simp only[zX,simprocAttr,i64,bV,iD,bD,he,Bool.not_false,Bool.not_true]
       refine ar mix [] [] (by rfl) ?_
       simp only[zX,simprocAttr,i64,bV,iD,bD,d1,m2]
       refine aT (bZ.trans bZ.bk bZ.bk) ?_
       refine ar mix [] [(15,[4],[4]),(17,[5],[5])] (by rfl) ?_
       simp only[zX,simprocAttr,i64,bV,iD,bD,hole,nT,ph,aj kid,Re.ae kid]
       refine ar mix [] [] (by rfl) ?_
       simp only[zX,simprocAttr,i64,bV,iD,bD,c2,d3]
       refine bA [4,5] (by simp [ca,bS,bh.go,bh,cA]) (ak (h1 _) (fun v s' hv=>?_))
       obtain⟨rfl,rfl⟩:=hv
       simp only[zX,simprocAttr,i64,bV,iD,bD]
       exact aI _ _
     |false =>
      simp only[FJ]at hr
      have hc:=fun ext=>eG (ih g0 _ _ _ _ _ hr) ext
      unfold ey dL bF cW at hc;simp only[Goal.bN,i64,iD,bD,bV,List.cons_append,List.nil_append]at hc
      by_cases m1:re.mx=-1
      ·have d1:decide (re.mx=-1)=true:=decide_eq_true m1
       unfold bF cW
       refine an func80 rfl ntmps80 results80 rfl 3 32527 (by simp) (by simp) ?_
       simp only[zX,simprocAttr,i64,bV,Goal.bN,iD,bD,hm]
       refine ak (ct _) (fun v s' hv=>?_)
       obtain⟨rfl,rfl⟩:=hv
       simp only[zX,simprocAttr,i64,bV,iD,bD,he,Bool.not_false,Bool.not_true]
       refine ar mix [] [] (by rfl) ?_
       simp only[zX,simprocAttr,i64,bV,iD,bD,d1]
       refine aT (bZ.trans bZ.bk bZ.bk) ?_
       refine ar mix [] [(15,[4],[4]),(17,[5],[5])] (by rfl) ?_
       simp only[zX,simprocAttr,i64,bV,iD,bD,hole,nT,ph,aj kid,Re.ae kid]
       refine ar mix [] [] (by rfl) ?_
       simp only[zX,simprocAttr,i64,bV,iD,bD,c2,d3]
       refine bA [4,5] (by simp [ca,bS,bh.go,bh,cA]) (ak (h1 _) (fun v s' hv=>?_))
       obtain⟨rfl,rfl⟩:=hv
       simp only[zX,simprocAttr,i64,bV,iD,bD]
       refine ak (hc _) (fun v s' hv=>?_)
       obtain⟨rfl,rfl⟩:=hv
       simp only[zX,simprocAttr,i64,bV,iD,bD]
       exact aI _ _
      ·have d1:decide (re.mx=-1)=false:=decide_eq_false m1
       have m2:k<re.mx:=hM.resolve_left m1
       unfold bF cW
       refine an func80 rfl ntmps80 results80 rfl 3 32527 (by simp) (by simp) ?_
       simp only[zX,simprocAttr,i64,bV,Goal.bN,iD,bD,hm]
       refine ak (ct _) (fun v s' hv=>?_)
       obtain⟨rfl,rfl⟩:=hv
       simp only[zX,simprocAttr,i64,bV,iD,bD,he,Bool.not_false,Bool.not_true]
       refine ar mix [] [] (by rfl) ?_
       simp only[zX,simprocAttr,i64,bV,iD,bD,d1,m2]
       refine aT (bZ.trans bZ.bk bZ.bk) ?_
       refine ar mix [] [(15,[4],[4]),(17,[5],[5])] (by rfl) ?_
       simp only[zX,simprocAttr,i64,bV,iD,bD,hole,nT,ph,aj kid,Re.ae kid]
       refine ar mix [] [] (by rfl) ?_
       simp only[zX,simprocAttr,i64,bV,iD,bD,c2,d3]
       refine bA [4,5] (by simp [ca,bS,bh.go,bh,cA]) (ak (h1 _) (fun v s' hv=>?_))
       obtain⟨rfl,rfl⟩:=hv
       simp only[zX,simprocAttr,i64,bV,iD,bD]
       refine ak (hc _) (fun v s' hv=>?_)
       obtain⟨rfl,rfl⟩:=hv
       simp only[zX,simprocAttr,i64,bV,iD,bD]
       exact aI _ _
   ·simp only[if_neg hM,FJ]at hr
    have hc:=fun ext=>eG (ih g0 _ _ _ _ _ hr) ext
    unfold ey dL bF cW at hc;simp only[Goal.bN,i64,iD,bD,bV,List.cons_append,List.nil_append]at hc
    simp only[he]at hc
    have d1:decide (re.mx=-1)=false:=decide_eq_false (fun h=>hM (.inl h))
    have m2:¬k<re.mx:=fun h=>hM (.inr h)
    unfold bF cW
    refine an func80 rfl ntmps80 results80 rfl 3 32527 (by simp) (by simp) ?_
    simp only[zX,simprocAttr,i64,bV,Goal.bN,iD,bD,hm]
    refine ak (ct _) (fun v s' hv=>?_)
    obtain⟨rfl,rfl⟩:=hv
    simp only[zX,simprocAttr,i64,bV,iD,bD,he,Bool.not_false,Bool.not_true]
    refine ar mix [] [] (by rfl) ?_
    simp only[zX,simprocAttr,i64,bV,iD,bD,d1,m2]
    refine aT (bZ.trans bZ.bk bZ.bk) ?_
    refine ar mix [] [(15,[4],[4]),(17,[5],[5])] (by rfl) ?_
    simp only[zX,simprocAttr,i64,bV,iD,bD,hole,nT,ph,aj kid,Re.ae kid]
    refine ar mix [] [] (by rfl) ?_
    simp only[zX,simprocAttr,i64,bV,iD,bD,c2,d3]
    refine ak (hc _) (fun v s' hv=>?_)
    obtain⟨rfl,rfl⟩:=hv
    simp only[zX,simprocAttr,i64,bV,iD,bD]
    exact aI _ _
end Go.Proofs.Ytfmdmlfhigocaaa
