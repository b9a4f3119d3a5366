/- A part of the proof (G8). -/
import Derived.Test.YtmihcpdhcillaaaGreatBG8
set_option linter.unusedSimpArgs false
set_option linter.unusedVariables false
set_option maxRecDepth 100000
set_option maxHeartbeats 80000000
namespace Go.Proofs.YtmihcpdhcillaaaGreat
open Go.VL Go.Proofs.Tryz
theorem La {t:List Int}{F:Int}{n:Nat} (ih:iM t F n) {g0:Nat}{ah:Int}{kind:Int}{re:Re}{k cT:Int}{next:Goal}{i:Int}{c:ar}{st st':aQ}{b:Bool} (hm:re.mode=2)
  (hr:jA F (dA t F n) ah re k next i c st=some (b,st')) :
  av prog 50 [.rf 0 g0 0 0,.d (Goal.mk kind re k cT next).d,i64 i,.d (bH c)] (b6 g0 t ah F st) fun v s=>v=bV b∧s=b6 g0 t ah F st':=by
 unfold jA at hr
 rw[if_pos hm]at hr
 cases hx:bJ (dA t F n) (.mk 1 (re.cq 0) 0 0 .nil) i c st with
 |none=>rw[hx]at hr;cases hr
 |some x =>
  obtain⟨r,s1⟩:=x
  rw[hx]at hr
  have hf:=fun ext=>uO (g0:=g0) (ah:=ah) ih hx ext
  have zm:Goal.nil.d=.sc (.pointer none):=rfl
  have e1:(re.cq 0).op=re.op∧(re.cq 0).set=re.set∧(re.cq 0).kids=re.kids∧(re.cq 0).mn=re.mn∧(re.cq 0).mx=re.mx∧(re.cq 0).mode=0∧(re.cq 0).n=re.n∧(re.cq 0).neg=re.neg:=⟨rfl,rfl,rfl,rfl,rfl,rfl,rfl,rfl⟩
  obtain⟨a1,a2,a3,a4,a5,a6,a7,a8⟩:=e1
  unfold b6 dE at hf
  simp only[Goal.bt,zm,a1,a2,a3,a4,a5,a6,a7,a8,i64,iD,bD,bV,WR,WS]at hf
  cases r with
  |none =>
   simp only[WX,Xs]at hr
   obtain⟨rfl,rfl⟩:=hr
   unfold b6 dE
   refine aw func50 rfl ntmps50 results50 rfl 3 32527 (by simp) (by simp) ?_
   simp only[zX,simprocAttr,i64,bV,Goal.bt,iD,bD,hm]
   refine aO [4] (by simp [aM,bf,aR.go,aR,bN]) (aj (hf _) (fun v s' hv=>?_))
   obtain⟨rfl,rfl⟩:=hv
   simp only[zX,simprocAttr,i64,bV,iD,bD,ja]
   exact aU _ _
  |some p =>
   obtain⟨e,d⟩:=p
   simp only at hr
   have hc:=fun ext=>fl (ih g0 _ _ _ _ _ hr) ext
   unfold eW eB b6 dE at hc;simp only[Goal.bt,i64,iD,bD,bV,WR,WS]at hc
   unfold b6 dE
   refine aw func50 rfl ntmps50 results50 rfl 3 32527 (by simp) (by simp) ?_
   simp only[zX,simprocAttr,i64,bV,Goal.bt,iD,bD,hm]
   refine aO [4] (by simp [aM,bf,aR.go,aR,bN]) (aj (hf _) (fun v s' hv=>?_))
   obtain⟨rfl,rfl⟩:=hv
   simp only[zX,simprocAttr,i64,bV,iD,bD,ja]
   refine aj (hc _) (fun v s' hv=>?_)
   obtain⟨rfl,rfl⟩:=hv
   simp only[zX,simprocAttr,i64,bV,iD,bD]
   exact aU _ _
theorem Kf {t:List Int}{F:Int}{n:Nat} (ih:iM t F n) {g0:Nat}{ah:Int}{kind:Int}{re:Re}{k cT:Int}{next:Goal}{i:Int}{c:ar}{st st':aQ}{b:Bool} (hm:¬re.mode=2)
  (hr:jA F (dA t F n) ah re k next i c st=some (b,st')) :
  av prog 50 [.rf 0 g0 0 0,.d (Goal.mk kind re k cT next).d,i64 i,.d (bH c)] (b6 g0 t ah F st) fun v s=>v=bV b∧s=b6 g0 t ah F st':=by
 unfold jA at hr
 rw[if_neg hm]at hr
 by_cases c1:st.steps<0∨10000000000000<st.steps
 ·rw[if_pos c1]at hr;cases hr
 rw[if_neg c1]at hr
 have aW:=fun ext=>CS g0 t ah F st (by omega) (by omega) ext
 generalize st.step F=s1 at *
 unfold b6 dE at aW
 simp only[i64,bV,iD,WR,WS]at aW
 simp only at hr
 by_cases he:s1.empty=true
 ·rw[if_pos he]at hr
  simp only[WX,Xs]at hr
  obtain⟨rfl,rfl⟩:=hr
  unfold b6 dE
  refine aw func50 rfl ntmps50 results50 rfl 3 32527 (by simp) (by simp) ?_
  simp only[zX,simprocAttr,i64,bV,Goal.bt,iD,bD,hm]
  refine aj (aW _) (fun v s' hv=>?_)
  obtain⟨rfl,rfl⟩:=hv
  simp only[zX,simprocAttr,i64,bV,iD,bD,he,W0,WY]
  exact aU _ _
 have he:s1.empty=false:=by simpa using he
 rw[he]at hr
 simp only[W2,if_false]at hr
 cases hk:re.kids with
 |nil=>rw[hk]at hr;cases hr
 |cons kid l =>
  rw[hk]at hr
  have hk0:re.kids[0]?=some kid:=by rw[hk];rfl
  have eh:(0:Int)<(re.kids.length:Int):=by rw[hk,W3];omega
  clear hk
  simp only at hr
  by_cases c2:k<re.mn
  ·rw[if_pos c2]at hr
   have hc:=fun ext=>fl (ih g0 _ _ _ _ _ hr) ext
   unfold eW eB b6 dE at hc;simp only[Goal.bt,i64,iD,bD,bV,WR,WS]at hc
   simp only[he]at hc
   by_cases hM:re.mx=-1∨k<re.mx
   ·
    by_cases m1:re.mx=-1
    ·have d1:decide (re.mx=-1)=true:=decide_eq_true m1
     unfold b6 dE
     refine aw func50 rfl ntmps50 results50 rfl 3 32527 (by simp) (by simp) ?_
     simp only[zX,simprocAttr,i64,bV,Goal.bt,iD,bD,hm]
     refine aj (aW _) (fun v s' hv=>?_)
     obtain⟨rfl,rfl⟩:=hv
     simp only[zX,simprocAttr,i64,bV,iD,bD,he,W0,WY]
     refine aq mix [] [] (by rfl) ?_
     simp only[zX,simprocAttr,i64,bV,iD,bD,d1]
     refine aH (bM.trans bM.aP bM.aP) ?_
     refine aq mix [] [(15,[4],[4]),(17,[5],[5])] (by rfl) ?_
     simp only[zX,simprocAttr,i64,bV,iD,bD,hole,hk0,eh,ay kid,Re.ae kid]
     refine aq mix [] [] (by rfl) ?_
     simp only[zX,simprocAttr,i64,bV,iD,bD,c2,c2]
     refine aO [4,5] (by simp [aM,bf,aR.go,aR,bN]) (aj (hc _) (fun v s' hv=>?_))
     obtain⟨rfl,rfl⟩:=hv
     simp only[zX,simprocAttr,i64,bV,iD,bD]
     exact aU _ _
    ·have d1:decide (re.mx=-1)=false:=decide_eq_false m1
     have m2:k<re.mx:=hM.resolve_left m1
     unfold b6 dE
     refine aw func50 rfl ntmps50 results50 rfl 3 32527 (by simp) (by simp) ?_
     simp only[zX,simprocAttr,i64,bV,Goal.bt,iD,bD,hm]
     refine aj (aW _) (fun v s' hv=>?_)
     obtain⟨rfl,rfl⟩:=hv
     simp only[zX,simprocAttr,i64,bV,iD,bD,he,W0,WY]
     refine aq mix [] [] (by rfl) ?_
     simp only[zX,simprocAttr,i64,bV,iD,bD,d1,m2]
     refine aH (bM.trans bM.aP bM.aP) ?_
     refine aq mix [] [(15,[4],[4]),(17,[5],[5])] (by rfl) ?_
     simp only[zX,simprocAttr,i64,bV,iD,bD,hole,hk0,eh,ay kid,Re.ae kid]
     refine aq mix [] [] (by rfl) ?_
     simp only[zX,simprocAttr,i64,bV,iD,bD,c2,c2]
     refine aO [4,5] (by simp [aM,bf,aR.go,aR,bN]) (aj (hc _) (fun v s' hv=>?_))
     obtain⟨rfl,rfl⟩:=hv
     simp only[zX,simprocAttr,i64,bV,iD,bD]
     exact aU _ _
   ·
    have d1:decide (re.mx=-1)=false:=decide_eq_false (fun h=>hM (.inl h))
    have m2:¬k<re.mx:=fun h=>hM (.inr h)
    unfold b6 dE
    refine aw func50 rfl ntmps50 results50 rfl 3 32527 (by simp) (by simp) ?_
    simp only[zX,simprocAttr,i64,bV,Goal.bt,iD,bD,hm]
    refine aj (aW _) (fun v s' hv=>?_)
    obtain⟨rfl,rfl⟩:=hv
    simp only[zX,simprocAttr,i64,bV,iD,bD,he,W0,WY]
    refine aq mix [] [] (by rfl) ?_
    simp only[zX,simprocAttr,i64,bV,iD,bD,d1,m2]
    refine aH (bM.trans bM.aP bM.aP) ?_
    refine aq mix [] [(15,[4],[4]),(17,[5],[5])] (by rfl) ?_
    simp only[zX,simprocAttr,i64,bV,iD,bD,hole,hk0,eh,ay kid,Re.ae kid]
    refine aq mix [] [] (by rfl) ?_
    simp only[zX,simprocAttr,i64,bV,iD,bD,c2,c2]
    refine aO [4,5] (by simp [aM,bf,aR.go,aR,bN]) (aj (hc _) (fun v s' hv=>?_))
    obtain⟨rfl,rfl⟩:=hv
    simp only[zX,simprocAttr,i64,bV,iD,bD]
    exact aU _ _
  rw[if_neg c2]at hr
  by_cases m3:re.mode=1
  ·have d3:decide (re.mode=1)=true:=decide_eq_true m3
   rw[if_pos m3]at hr
   cases hx:dA t F n ah (.run next i c) s1 with
   |none=>rw[hx]at hr;cases hr
   |some x =>
    obtain⟨b1,s2⟩:=x
    rw[hx]at hr
    have h1:=fun ext=>fl (ih g0 _ _ _ _ _ hx) ext
    unfold eW eB b6 dE at h1;simp only[Goal.bt,i64,iD,bD,bV,WR,WS]at h1
    simp only[he]at h1
    by_cases hM:re.mx=-1∨k<re.mx
    ·simp only[if_pos hM]at hr
     cases b1 with
     |true =>
      simp only[jP,WX,Xs]at hr
      obtain⟨rfl,rfl⟩:=hr
      by_cases m1:re.mx=-1
      ·have d1:decide (re.mx=-1)=true:=decide_eq_true m1
       unfold b6 dE
       refine aw func50 rfl ntmps50 results50 rfl 3 32527 (by simp) (by simp) ?_
       simp only[zX,simprocAttr,i64,bV,Goal.bt,iD,bD,hm]
       refine aj (aW _) (fun v s' hv=>?_)
       obtain⟨rfl,rfl⟩:=hv
       simp only[zX,simprocAttr,i64,bV,iD,bD,he,W0,WY]
       refine aq mix [] [] (by rfl) ?_
       simp only[zX,simprocAttr,i64,bV,iD,bD,d1]
       refine aH (bM.trans bM.aP bM.aP) ?_
       refine aq mix [] [(15,[4],[4]),(17,[5],[5])] (by rfl) ?_
       simp only[zX,simprocAttr,i64,bV,iD,bD,hole,hk0,eh,ay kid,Re.ae kid]
       refine aq mix [] [] (by rfl) ?_
       simp only[zX,simprocAttr,i64,bV,iD,bD,c2,d3]
       refine aj (h1 _) (fun v s' hv=>?_)
       obtain⟨rfl,rfl⟩:=hv
       simp only[zX,simprocAttr,i64,bV,iD,bD]
       exact aU _ _
      ·have d1:decide (re.mx=-1)=false:=decide_eq_false m1
       have m2:k<re.mx:=hM.resolve_left m1
       unfold b6 dE
       refine aw func50 rfl ntmps50 results50 rfl 3 32527 (by simp) (by simp) ?_
       simp only[zX,simprocAttr,i64,bV,Goal.bt,iD,bD,hm]
       refine aj (aW _) (fun v s' hv=>?_)
       obtain⟨rfl,rfl⟩:=hv
       simp only[zX,simprocAttr,i64,bV,iD,bD,he,W0,WY]
       refine aq mix [] [] (by rfl) ?_
       simp only[zX,simprocAttr,i64,bV,iD,bD,d1,m2]
       refine aH (bM.trans bM.aP bM.aP) ?_
       refine aq mix [] [(15,[4],[4]),(17,[5],[5])] (by rfl) ?_
       simp only[zX,simprocAttr,i64,bV,iD,bD,hole,hk0,eh,ay kid,Re.ae kid]
       refine aq mix [] [] (by rfl) ?_
       simp only[zX,simprocAttr,i64,bV,iD,bD,c2,d3]
       refine aj (h1 _) (fun v s' hv=>?_)
       obtain⟨rfl,rfl⟩:=hv
       simp only[zX,simprocAttr,i64,bV,iD,bD]
       exact aU _ _
     |false =>
      simp only[jP]at hr
      have hc:=fun ext=>fl (ih g0 _ _ _ _ _ hr) ext
      unfold eW eB b6 dE at hc;simp only[Goal.bt,i64,iD,bD,bV,WR,WS]at hc
      by_cases m1:re.mx=-1
      ·have d1:decide (re.mx=-1)=true:=decide_eq_true m1
       unfold b6 dE
       refine aw func50 rfl ntmps50 results50 rfl 3 32527 (by simp) (by simp) ?_
       simp only[zX,simprocAttr,i64,bV,Goal.bt,iD,bD,hm]
       refine aj (aW _) (fun v s' hv=>?_)
       obtain⟨rfl,rfl⟩:=hv
       simp only[zX,simprocAttr,i64,bV,iD,bD,he,W0,WY]
       refine aq mix [] [] (by rfl) ?_
       simp only[zX,simprocAttr,i64,bV,iD,bD,d1]
       refine aH (bM.trans bM.aP bM.aP) ?_
       refine aq mix [] [(15,[4],[4]),(17,[5],[5])] (by rfl) ?_
       simp only[zX,simprocAttr,i64,bV,iD,bD,hole,hk0,eh,ay kid,Re.ae kid]
       refine aq mix [] [] (by rfl) ?_
       simp only[zX,simprocAttr,i64,bV,iD,bD,c2,d3]
       refine aj (h1 _) (fun v s' hv=>?_)
       obtain⟨rfl,rfl⟩:=hv
       simp only[zX,simprocAttr,i64,bV,iD,bD]
       refine aO [4,5] (by simp [aM,bf,aR.go,aR,bN]) (aj (hc _) (fun v s' hv=>?_))
       obtain⟨rfl,rfl⟩:=hv
       simp only[zX,simprocAttr,i64,bV,iD,bD]
       exact aU _ _
      ·have d1:decide (re.mx=-1)=false:=decide_eq_false m1
       have m2:k<re.mx:=hM.resolve_left m1
       unfold b6 dE
       refine aw func50 rfl ntmps50 results50 rfl 3 32527 (by simp) (by simp) ?_
       simp only[zX,simprocAttr,i64,bV,Goal.bt,iD,bD,hm]
       refine aj (aW _) (fun v s' hv=>?_)
       obtain⟨rfl,rfl⟩:=hv
       simp only[zX,simprocAttr,i64,bV,iD,bD,he,W0,WY]
       refine aq mix [] [] (by rfl) ?_
       simp only[zX,simprocAttr,i64,bV,iD,bD,d1,m2]
       refine aH (bM.trans bM.aP bM.aP) ?_
       refine aq mix [] [(15,[4],[4]),(17,[5],[5])] (by rfl) ?_
       simp only[zX,simprocAttr,i64,bV,iD,bD,hole,hk0,eh,ay kid,Re.ae kid]
       refine aq mix [] [] (by rfl) ?_
       simp only[zX,simprocAttr,i64,bV,iD,bD,c2,d3]
       refine aj (h1 _) (fun v s' hv=>?_)
       obtain⟨rfl,rfl⟩:=hv
       simp only[zX,simprocAttr,i64,bV,iD,bD]
       refine aO [4,5] (by simp [aM,bf,aR.go,aR,bN]) (aj (hc _) (fun v s' hv=>?_))
       obtain⟨rfl,rfl⟩:=hv
       simp only[zX,simprocAttr,i64,bV,iD,bD]
       exact aU _ _
    ·simp only[if_neg hM]at hr
     cases b1 with
     |true =>
      simp only[jP,WX,Xs]at hr
      obtain⟨rfl,rfl⟩:=hr
      have d1:decide (re.mx=-1)=false:=decide_eq_false (fun h=>hM (.inl h))
      have m2:¬k<re.mx:=fun h=>hM (.inr h)
      unfold b6 dE
      refine aw func50 rfl ntmps50 results50 rfl 3 32527 (by simp) (by simp) ?_
      simp only[zX,simprocAttr,i64,bV,Goal.bt,iD,bD,hm]
      refine aj (aW _) (fun v s' hv=>?_)
      obtain⟨rfl,rfl⟩:=hv
      simp only[zX,simprocAttr,i64,bV,iD,bD,he,W0,WY]
      refine aq mix [] [] (by rfl) ?_
      simp only[zX,simprocAttr,i64,bV,iD,bD,d1,m2]
      refine aH (bM.trans bM.aP bM.aP) ?_
      refine aq mix [] [(15,[4],[4]),(17,[5],[5])] (by rfl) ?_
      simp only[zX,simprocAttr,i64,bV,iD,bD,hole,hk0,eh,ay kid,Re.ae kid]
      refine aq mix [] [] (by rfl) ?_
      simp only[zX,simprocAttr,i64,bV,iD,bD,c2,d3]
      refine aj (h1 _) (fun v s' hv=>?_)
      obtain⟨rfl,rfl⟩:=hv
      simp only[zX,simprocAttr,i64,bV,iD,bD]
      exact aU _ _
     |false =>
      simp only[jP,WX,Xs]at hr
      obtain⟨rfl,rfl⟩:=hr
      have d1:decide (re.mx=-1)=false:=decide_eq_false (fun h=>hM (.inl h))
      have m2:¬k<re.mx:=fun h=>hM (.inr h)
      unfold b6 dE
      refine aw func50 rfl ntmps50 results50 rfl 3 32527 (by simp) (by simp) ?_
      simp only[zX,simprocAttr,i64,bV,Goal.bt,iD,bD,hm]
      refine aj (aW _) (fun v s' hv=>?_)
      obtain⟨rfl,rfl⟩:=hv
      simp only[zX,simprocAttr,i64,bV,iD,bD,he,W0,WY]
      refine aq mix [] [] (by rfl) ?_
      simp only[zX,simprocAttr,i64,bV,iD,bD,d1,m2]
      refine aH (bM.trans bM.aP bM.aP) ?_
      refine aq mix [] [(15,[4],[4]),(17,[5],[5])] (by rfl) ?_
      simp only[zX,simprocAttr,i64,bV,iD,bD,hole,hk0,eh,ay kid,Re.ae kid]
      refine aq mix [] [] (by rfl) ?_
      simp only[zX,simprocAttr,i64,bV,iD,bD,c2,d3]
      refine aj (h1 _) (fun v s' hv=>?_)
      obtain⟨rfl,rfl⟩:=hv
      simp only[zX,simprocAttr,i64,bV,iD,bD]
      exact aU _ _
  ·have d3:decide (re.mode=1)=false:=decide_eq_false m3
   rw[if_neg m3]at hr
   by_cases hM:re.mx=-1∨k<re.mx
   ·simp only[if_pos hM]at hr
    cases hx:dA t F n ah (.run (.mk 0 kid 0 0 (.mk 2 re k i next)) i c) s1 with
    |none=>rw[hx]at hr;cases hr
    |some x =>
     obtain⟨b1,s2⟩:=x
     rw[hx]at hr
     have h1:=fun ext=>fl (ih g0 _ _ _ _ _ hx) ext
     unfold eW eB b6 dE at h1;simp only[Goal.bt,i64,iD,bD,bV,WR,WS]at h1
     simp only[he]at h1
     cases b1 with
     |true =>
      simp only[jP,WX,Xs]at hr
      obtain⟨rfl,rfl⟩:=hr
      by_cases m1:re.mx=-1
      ·have d1:decide (re.mx=-1)=true:=decide_eq_true m1
       unfold b6 dE
       refine aw func50 rfl ntmps50 results50 rfl 3 32527 (by simp) (by simp) ?_
       simp only[zX,simprocAttr,i64,bV,Goal.bt,iD,bD,hm]
       refine aj (aW _) (fun v s' hv=>?_)
       obtain⟨rfl,rfl⟩:=hv
       simp only[zX,simprocAttr,i64,bV,iD,bD,he,W0,WY]
       refine aq mix [] [] (by rfl) ?_
       simp only[zX,simprocAttr,i64,bV,iD,bD,d1]
       refine aH (bM.trans bM.aP bM.aP) ?_
       refine aq mix [] [(15,[4],[4]),(17,[5],[5])] (by rfl) ?_
       simp only[zX,simprocAttr,i64,bV,iD,bD,hole,hk0,eh,ay kid,Re.ae kid]
       refine aq mix [] [] (by rfl) ?_
       simp only[zX,simprocAttr,i64,bV,iD,bD,c2,d3]
       refine aO [4,5] (by simp [aM,bf,aR.go,aR,bN]) (aj (h1 _) (fun v s' hv=>?_))
       obtain⟨rfl,rfl⟩:=hv
       simp only[zX,simprocAttr,i64,bV,iD,bD]
       exact aU _ _
      ·have d1:decide (re.mx=-1)=false:=decide_eq_false m1
       have m2:k<re.mx:=hM.resolve_left m1
       unfold b6 dE
       refine aw func50 rfl ntmps50 results50 rfl 3 32527 (by simp) (by simp) ?_
       simp only[zX,simprocAttr,i64,bV,Goal.bt,iD,bD,hm]
       refine aj (aW _) (fun v s' hv=>?_)
       obtain⟨rfl,rfl⟩:=hv
       simp only[zX,simprocAttr,i64,bV,iD,bD,he,W0,WY]
       refine aq mix [] [] (by rfl) ?_
       simp only[zX,simprocAttr,i64,bV,iD,bD,d1,m2]
       refine aH (bM.trans bM.aP bM.aP) ?_
       refine aq mix [] [(15,[4],[4]),(17,[5],[5])] (by rfl) ?_
       simp only[zX,simprocAttr,i64,bV,iD,bD,hole,hk0,eh,ay kid,Re.ae kid]
       refine aq mix [] [] (by rfl) ?_
       simp only[zX,simprocAttr,i64,bV,iD,bD,c2,d3]
       refine aO [4,5] (by simp [aM,bf,aR.go,aR,bN]) (aj (h1 _) (fun v s' hv=>?_))
       obtain⟨rfl,rfl⟩:=hv
       simp only[zX,simprocAttr,i64,bV,iD,bD]
       exact aU _ _
     |false =>
      simp only[jP]at hr
      have hc:=fun ext=>fl (ih g0 _ _ _ _ _ hr) ext
      unfold eW eB b6 dE at hc;simp only[Goal.bt,i64,iD,bD,bV,WR,WS]at hc
      by_cases m1:re.mx=-1
      ·have d1:decide (re.mx=-1)=true:=decide_eq_true m1
       unfold b6 dE
       refine aw func50 rfl ntmps50 results50 rfl 3 32527 (by simp) (by simp) ?_
       simp only[zX,simprocAttr,i64,bV,Goal.bt,iD,bD,hm]
       refine aj (aW _) (fun v s' hv=>?_)
       obtain⟨rfl,rfl⟩:=hv
       simp only[zX,simprocAttr,i64,bV,iD,bD,he,W0,WY]
       refine aq mix [] [] (by rfl) ?_
       simp only[zX,simprocAttr,i64,bV,iD,bD,d1]
       refine aH (bM.trans bM.aP bM.aP) ?_
       refine aq mix [] [(15,[4],[4]),(17,[5],[5])] (by rfl) ?_
       simp only[zX,simprocAttr,i64,bV,iD,bD,hole,hk0,eh,ay kid,Re.ae kid]
       refine aq mix [] [] (by rfl) ?_
       simp only[zX,simprocAttr,i64,bV,iD,bD,c2,d3]
       refine aO [4,5] (by simp [aM,bf,aR.go,aR,bN]) (aj (h1 _) (fun v s' hv=>?_))
       obtain⟨rfl,rfl⟩:=hv
       simp only[zX,simprocAttr,i64,bV,iD,bD]
       refine aj (hc _) (fun v s' hv=>?_)
       obtain⟨rfl,rfl⟩:=hv
       simp only[zX,simprocAttr,i64,bV,iD,bD]
       exact aU _ _
      ·have d1:decide (re.mx=-1)=false:=decide_eq_false m1
       have m2:k<re.mx:=hM.resolve_left m1
       unfold b6 dE
       refine aw func50 rfl ntmps50 results50 rfl 3 32527 (by simp) (by simp) ?_
       simp only[zX,simprocAttr,i64,bV,Goal.bt,iD,bD,hm]
       refine aj (aW _) (fun v s' hv=>?_)
       obtain⟨rfl,rfl⟩:=hv
       simp only[zX,simprocAttr,i64,bV,iD,bD,he,W0,WY]
       refine aq mix [] [] (by rfl) ?_
       simp only[zX,simprocAttr,i64,bV,iD,bD,d1,m2]
       refine aH (bM.trans bM.aP bM.aP) ?_
       refine aq mix [] [(15,[4],[4]),(17,[5],[5])] (by rfl) ?_
       simp only[zX,simprocAttr,i64,bV,iD,bD,hole,hk0,eh,ay kid,Re.ae kid]
       refine aq mix [] [] (by rfl) ?_
       simp only[zX,simprocAttr,i64,bV,iD,bD,c2,d3]
       refine aO [4,5] (by simp [aM,bf,aR.go,aR,bN]) (aj (h1 _) (fun v s' hv=>?_))
       obtain⟨rfl,rfl⟩:=hv
       simp only[zX,simprocAttr,i64,bV,iD,bD]
       refine aj (hc _) (fun v s' hv=>?_)
       obtain⟨rfl,rfl⟩:=hv
       simp only[zX,simprocAttr,i64,bV,iD,bD]
       exact aU _ _
   ·simp only[if_neg hM,jP]at hr
    have hc:=fun ext=>fl (ih g0 _ _ _ _ _ hr) ext
    unfold eW eB b6 dE at hc;simp only[Goal.bt,i64,iD,bD,bV,WR,WS]at hc
    simp only[he]at hc
    have d1:decide (re.mx=-1)=false:=decide_eq_false (fun h=>hM (.inl h))
    have m2:¬k<re.mx:=fun h=>hM (.inr h)
    unfold b6 dE
    refine aw func50 rfl ntmps50 results50 rfl 3 32527 (by simp) (by simp) ?_
    simp only[zX,simprocAttr,i64,bV,Goal.bt,iD,bD,hm]
    refine aj (aW _) (fun v s' hv=>?_)
    obtain⟨rfl,rfl⟩:=hv
    simp only[zX,simprocAttr,i64,bV,iD,bD,he,W0,WY]
    refine aq mix [] [] (by rfl) ?_
    simp only[zX,simprocAttr,i64,bV,iD,bD,d1,m2]
    refine aH (bM.trans bM.aP bM.aP) ?_
    refine aq mix [] [(15,[4],[4]),(17,[5],[5])] (by rfl) ?_
    simp only[zX,simprocAttr,i64,bV,iD,bD,hole,hk0,eh,ay kid,Re.ae kid]
    refine aq mix [] [] (by rfl) ?_
    simp only[zX,simprocAttr,i64,bV,iD,bD,c2,d3]
    refine aj (hc _) (fun v s' hv=>?_)
    obtain⟨rfl,rfl⟩:=hv
    simp only[zX,simprocAttr,i64,bV,iD,bD]
    exact aU _ _
end Go.Proofs.YtmihcpdhcillaaaGreat
