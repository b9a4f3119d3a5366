/- A part of the proof (G11 G12). -/
import Derived.Test.YtfmdmlfhigocaaaOF19
set_option linter.unusedSimpArgs false
set_option linter.unusedVariables false
set_option maxRecDepth 100000
set_option maxHeartbeats 80000000
namespace Go.Proofs.Ytfmdmlfhigocaaa
open Go.VL Go.Proofs.Try
theorem PG {t:List Int}{F:Int}{n:Nat} (ih:ja t F n) (ht:t.length<=1000000) {g0:Nat}{most:Int}{kind:Int}{re:Re}{k eA:Int}{next:Goal}{i:Int}{c:aE}{st s1 st':bq}{b:Bool} (o:re.op=9)
  (hi0:0<=i) (mE:i<=t.length) (eO:re.set.length<=1000000000) (rX:re.kids.length<=1000000000) (iJ:c.length<=1000000000) (he:s1.empty=false) (ct:dY t F g0 most st s1)
  (hr:eE t (fG t F n) most re next i c s1=some (b,st')) :
  aq prog 82 [.rf 0 g0 0 0,.d (Goal.mk kind re k eA next).d,i64 i,.d (cy c)] (bF g0 t most F st) fun v s=>v=bV b/\s=bF g0 t most F st':=by
 unfold dY bF cW at ct
 simp only[i64,bV,iD,List.cons_append,List.nil_append]at ct
 have d4:decide (re.op=4)=false:=decide_eq_false (by omega)
 have d1:decide (re.op=1)=false:=decide_eq_false (by omega)
 have d2:decide (re.op=2)=false:=decide_eq_false (by omega)
 have d3:decide (re.op=3)=false:=decide_eq_false (by omega)
 have d5:decide (re.op=5)=false:=decide_eq_false (by omega)
 have d6:decide (re.op=6)=false:=decide_eq_false (by omega)
 have d7:decide (re.op=7)=false:=decide_eq_false (by omega)
 have d8:decide (re.op=8)=false:=decide_eq_false (by omega)
 have d9:decide (re.op=9)=true:=decide_eq_true o
 unfold eE at hr
 rw[if_neg (by omega),if_neg (by omega),if_neg (by omega),if_neg (by omega),if_neg (by omega),if_neg (by omega),if_pos o]at hr
 have G0:Goal.nil.d=.sc (.pointer none):=rfl
 cases hk:re.kids with
 |nil=>rw[hk]at hr;cases hr
 |cons kid l =>
  rw[hk]at hr
  have nT:re.kids[0]?=some kid:=by rw[hk];rfl
  have ph:(0:Int)<(re.kids.length:Int):=by rw[hk,List.length_cons];omega
  clear hk
  simp only at hr
  cases hx:ff (fG t F n) (.mk 0 kid 0 0 .nil) i c s1 with
  |none=>rw[hx]at hr;cases hr
  |some x =>
   obtain⟨r1,s2⟩:=x
   rw[hx]at hr
   simp only at hr
   have hf:=fun ext=>wh (g0:=g0) (most:=most) ih hx ext
   unfold bF cW at hf
   simp only[Goal.bN,G0,i64,iD,bD,bV,List.cons_append,List.nil_append,he]at hf
   by_cases e2:s2.empty=true
   ·rw[if_pos e2]at hr
    simp only[Option.some.injEq,Prod.mk.injEq]at hr
    obtain⟨rfl,rfl⟩:=hr
    cases r1 with
    |none =>
     unfold bF cW
     refine an func82 rfl ntmps82 results82 rfl 3 26328072917139296674479506920917608079723773850137295405767982863 (by simp) (by simp) ?_
     simp only[zX,simprocAttr,i64,bV,Goal.bN,iD,bD,d4,d1,d2,d3,d5,d6,d7,d8,d9]
     refine ak (ct _) (fun v s' hv=>?_)
     obtain⟨rfl,rfl⟩:=hv
     simp only[zX,simprocAttr,i64,bV,iD,bD,he,Bool.not_false,Bool.not_true,d4,d1,d2,d3,d5,d6,d7,d8,d9]
     simp only[zX,simprocAttr,i64,iD,bD,nT,ph,aj kid,Re.ae kid]
     refine bA [4] (by simp [ca,bS,bh.go,bh,cA]) (ak (hf _) (fun v s' hv=>?_))
     obtain⟨rfl,rfl⟩:=hv
     simp only[zX,simprocAttr,i64,bV,iD,bD,jz,e2]
     first|exact aI _ _|exact⟨aI _ _,rfl⟩
    |some p =>
     obtain⟨e1,d⟩:=p
     unfold bF cW
     refine an func82 rfl ntmps82 results82 rfl 3 26328072917139296674479506920917608079723773850137295405767982863 (by simp) (by simp) ?_
     simp only[zX,simprocAttr,i64,bV,Goal.bN,iD,bD,d4,d1,d2,d3,d5,d6,d7,d8,d9]
     refine ak (ct _) (fun v s' hv=>?_)
     obtain⟨rfl,rfl⟩:=hv
     simp only[zX,simprocAttr,i64,bV,iD,bD,he,Bool.not_false,Bool.not_true,d4,d1,d2,d3,d5,d6,d7,d8,d9]
     simp only[zX,simprocAttr,i64,iD,bD,nT,ph,aj kid,Re.ae kid]
     refine bA [4] (by simp [ca,bS,bh.go,bh,cA]) (ak (hf _) (fun v s' hv=>?_))
     obtain⟨rfl,rfl⟩:=hv
     simp only[zX,simprocAttr,i64,bV,iD,bD,jz,e2]
     first|exact aI _ _|exact⟨aI _ _,rfl⟩
   ·rw[if_neg e2]at hr
    have e2:s2.empty=false:=by simpa using e2
    cases r1 with
    |none =>
     simp only[Option.some.injEq,Prod.mk.injEq]at hr
     obtain⟨rfl,rfl⟩:=hr
     unfold bF cW
     refine an func82 rfl ntmps82 results82 rfl 3 26328072917139296674479506920917608079723773850137295405767982863 (by simp) (by simp) ?_
     simp only[zX,simprocAttr,i64,bV,Goal.bN,iD,bD,d4,d1,d2,d3,d5,d6,d7,d8,d9]
     refine ak (ct _) (fun v s' hv=>?_)
     obtain⟨rfl,rfl⟩:=hv
     simp only[zX,simprocAttr,i64,bV,iD,bD,he,Bool.not_false,Bool.not_true,d4,d1,d2,d3,d5,d6,d7,d8,d9]
     simp only[zX,simprocAttr,i64,iD,bD,nT,ph,aj kid,Re.ae kid]
     refine bA [4] (by simp [ca,bS,bh.go,bh,cA]) (ak (hf _) (fun v s' hv=>?_))
     obtain⟨rfl,rfl⟩:=hv
     simp only[zX,simprocAttr,i64,bV,iD,bD,jz,e2]
     first|exact aI _ _|exact⟨aI _ _,rfl⟩
    |some p =>
     obtain⟨e1,d⟩:=p
     simp only at hr
     have hc:=fun ext=>eG (ih g0 _ _ _ _ _ hr) ext
     unfold ey dL bF cW at hc;simp only[Goal.bN,i64,iD,bD,bV,List.cons_append,List.nil_append]at hc
     simp only[e2]at hc
     unfold bF cW
     refine an func82 rfl ntmps82 results82 rfl 3 26328072917139296674479506920917608079723773850137295405767982863 (by simp) (by simp) ?_
     simp only[zX,simprocAttr,i64,bV,Goal.bN,iD,bD,d4,d1,d2,d3,d5,d6,d7,d8,d9]
     refine ak (ct _) (fun v s' hv=>?_)
     obtain⟨rfl,rfl⟩:=hv
     simp only[zX,simprocAttr,i64,bV,iD,bD,he,Bool.not_false,Bool.not_true,d4,d1,d2,d3,d5,d6,d7,d8,d9]
     simp only[zX,simprocAttr,i64,iD,bD,nT,ph,aj kid,Re.ae kid]
     refine bA [4] (by simp [ca,bS,bh.go,bh,cA]) (ak (hf _) (fun v s' hv=>?_))
     obtain⟨rfl,rfl⟩:=hv
     simp only[zX,simprocAttr,i64,bV,iD,bD,jz,e2]
     (refine ak (hc _) (fun v s' hv=>?_);obtain⟨rfl,rfl⟩:=hv)
     simp only[zX,simprocAttr,i64,bV,iD,bD]
     first|exact aI _ _|exact⟨aI _ _,rfl⟩
theorem P3 {t:List Int}{F:Int}{n:Nat} (ih:ja t F n) (ht:t.length<=1000000) {g0:Nat}{most:Int}{kind:Int}{re:Re}{k eA:Int}{next:Goal}{i:Int}{c:aE}{st s1 st':bq}{b:Bool} (o:re.op=7)
  (hi0:0<=i) (mE:i<=t.length) (eO:re.set.length<=1000000000) (rX:re.kids.length<=1000000000) (iJ:c.length<=1000000000) (he:s1.empty=false) (ct:dY t F g0 most st s1)
  (hr:eE t (fG t F n) most re next i c s1=some (b,st')) :
  aq prog 82 [.rf 0 g0 0 0,.d (Goal.mk kind re k eA next).d,i64 i,.d (cy c)] (bF g0 t most F st) fun v s=>v=bV b/\s=bF g0 t most F st':=by
 unfold dY bF cW at ct
 simp only[i64,bV,iD,List.cons_append,List.nil_append]at ct
 have d4:decide (re.op=4)=false:=decide_eq_false (by omega)
 have d1:decide (re.op=1)=false:=decide_eq_false (by omega)
 have d2:decide (re.op=2)=false:=decide_eq_false (by omega)
 have d3:decide (re.op=3)=false:=decide_eq_false (by omega)
 have d5:decide (re.op=5)=false:=decide_eq_false (by omega)
 have d6:decide (re.op=6)=false:=decide_eq_false (by omega)
 have d7:decide (re.op=7)=true:=decide_eq_true o
 unfold eE at hr
 rw[if_neg (by omega),if_neg (by omega),if_neg (by omega),if_neg (by omega),if_neg (by omega),if_pos (by omega)]at hr
 cases hk:re.kids with
 |nil=>rw[hk]at hr;cases hr
 |cons kid l =>
  rw[hk]at hr
  have nT:re.kids[0]?=some kid:=by rw[hk];rfl
  have ph:(0:Int)<(re.kids.length:Int):=by rw[hk,List.length_cons];omega
  simp only at hr
  cases hx:oZ (fG t F n) re.op kid i c s1 with
  |none=>rw[hx]at hr;cases hr
  |some x =>
   obtain⟨r1,s2⟩:=x
   rw[hx]at hr
   simp only at hr
   have hf:=fun ext=>Fi (g0:=g0) (most:=most) ih hk hi0 (by omega) hx ext
   clear hk
   unfold bF cW at hf
   simp only[aj re,i64,iD,bD,bV,List.cons_append,List.nil_append,he]at hf
   by_cases e2:s2.empty=true
   ·rw[if_pos e2]at hr
    simp only[Option.some.injEq,Prod.mk.injEq]at hr
    obtain⟨rfl,rfl⟩:=hr
    cases r1 with
    |none =>
     unfold bF cW
     refine an func82 rfl ntmps82 results82 rfl 3 26328072917139296674479506920917608079723773850137295405767982863 (by simp) (by simp) ?_
     simp only[zX,simprocAttr,i64,bV,Goal.bN,iD,bD,d4,d1,d2,d3,d5,d6,d7]
     refine ak (ct _) (fun v s' hv=>?_)
     obtain⟨rfl,rfl⟩:=hv
     simp only[zX,simprocAttr,i64,bV,iD,bD,he,Bool.not_false,Bool.not_true,d4,d1,d2,d3,d5,d6,d7]
     (refine ak (hf _) (fun v s' hv=>?_);obtain⟨rfl,rfl⟩:=hv)
     simp only[zX,simprocAttr,i64,bV,iD,bD,kZ,e2]
     first|exact aI _ _|exact⟨aI _ _,rfl⟩
    |some d =>
     unfold bF cW
     refine an func82 rfl ntmps82 results82 rfl 3 26328072917139296674479506920917608079723773850137295405767982863 (by simp) (by simp) ?_
     simp only[zX,simprocAttr,i64,bV,Goal.bN,iD,bD,d4,d1,d2,d3,d5,d6,d7]
     refine ak (ct _) (fun v s' hv=>?_)
     obtain⟨rfl,rfl⟩:=hv
     simp only[zX,simprocAttr,i64,bV,iD,bD,he,Bool.not_false,Bool.not_true,d4,d1,d2,d3,d5,d6,d7]
     (refine ak (hf _) (fun v s' hv=>?_);obtain⟨rfl,rfl⟩:=hv)
     simp only[zX,simprocAttr,i64,bV,iD,bD,kZ,e2]
     first|exact aI _ _|exact⟨aI _ _,rfl⟩
   ·rw[if_neg e2]at hr
    have e2:s2.empty=false:=by simpa using e2
    cases hn:re.neg with
    |true =>
     rw[if_pos hn]at hr
     cases r1 with
     |none =>
      simp only at hr
      have hc:=fun ext=>eG (ih g0 _ _ _ _ _ hr) ext
      unfold ey dL bF cW at hc;simp only[Goal.bN,i64,iD,bD,bV,List.cons_append,List.nil_append]at hc
      simp only[e2]at hc
      unfold bF cW
      refine an func82 rfl ntmps82 results82 rfl 3 26328072917139296674479506920917608079723773850137295405767982863 (by simp) (by simp) ?_
      simp only[zX,simprocAttr,i64,bV,Goal.bN,iD,bD,d4,d1,d2,d3,d5,d6,d7]
      refine ak (ct _) (fun v s' hv=>?_)
      obtain⟨rfl,rfl⟩:=hv
      simp only[zX,simprocAttr,i64,bV,iD,bD,he,Bool.not_false,Bool.not_true,d4,d1,d2,d3,d5,d6,d7]
      (refine ak (hf _) (fun v s' hv=>?_);obtain⟨rfl,rfl⟩:=hv)
      simp only[zX,simprocAttr,i64,bV,iD,bD,kZ,e2,hn]
      (refine ak (hc _) (fun v s' hv=>?_);obtain⟨rfl,rfl⟩:=hv)
      simp only[zX,simprocAttr,i64,bV,iD,bD]
      first|exact aI _ _|exact⟨aI _ _,rfl⟩
     |some d =>
      simp only[Option.some.injEq,Prod.mk.injEq]at hr
      obtain⟨rfl,rfl⟩:=hr
      unfold bF cW
      refine an func82 rfl ntmps82 results82 rfl 3 26328072917139296674479506920917608079723773850137295405767982863 (by simp) (by simp) ?_
      simp only[zX,simprocAttr,i64,bV,Goal.bN,iD,bD,d4,d1,d2,d3,d5,d6,d7]
      refine ak (ct _) (fun v s' hv=>?_)
      obtain⟨rfl,rfl⟩:=hv
      simp only[zX,simprocAttr,i64,bV,iD,bD,he,Bool.not_false,Bool.not_true,d4,d1,d2,d3,d5,d6,d7]
      (refine ak (hf _) (fun v s' hv=>?_);obtain⟨rfl,rfl⟩:=hv)
      simp only[zX,simprocAttr,i64,bV,iD,bD,kZ,e2,hn]
      first|exact aI _ _|exact⟨aI _ _,rfl⟩
    |false =>
     rw[if_neg (by rw[hn];decide)]at hr
     cases r1 with
     |none =>
      simp only[Option.some.injEq,Prod.mk.injEq]at hr
      obtain⟨rfl,rfl⟩:=hr
      unfold bF cW
      refine an func82 rfl ntmps82 results82 rfl 3 26328072917139296674479506920917608079723773850137295405767982863 (by simp) (by simp) ?_
      simp only[zX,simprocAttr,i64,bV,Goal.bN,iD,bD,d4,d1,d2,d3,d5,d6,d7]
      refine ak (ct _) (fun v s' hv=>?_)
      obtain⟨rfl,rfl⟩:=hv
      simp only[zX,simprocAttr,i64,bV,iD,bD,he,Bool.not_false,Bool.not_true,d4,d1,d2,d3,d5,d6,d7]
      (refine ak (hf _) (fun v s' hv=>?_);obtain⟨rfl,rfl⟩:=hv)
      simp only[zX,simprocAttr,i64,bV,iD,bD,kZ,e2,hn]
      first|exact aI _ _|exact⟨aI _ _,rfl⟩
     |some d =>
      simp only at hr
      have hc:=fun ext=>eG (ih g0 _ _ _ _ _ hr) ext
      unfold ey dL bF cW at hc;simp only[Goal.bN,i64,iD,bD,bV,List.cons_append,List.nil_append]at hc
      simp only[e2]at hc
      unfold bF cW
      refine an func82 rfl ntmps82 results82 rfl 3 26328072917139296674479506920917608079723773850137295405767982863 (by simp) (by simp) ?_
      simp only[zX,simprocAttr,i64,bV,Goal.bN,iD,bD,d4,d1,d2,d3,d5,d6,d7]
      refine ak (ct _) (fun v s' hv=>?_)
      obtain⟨rfl,rfl⟩:=hv
      simp only[zX,simprocAttr,i64,bV,iD,bD,he,Bool.not_false,Bool.not_true,d4,d1,d2,d3,d5,d6,d7]
      (refine ak (hf _) (fun v s' hv=>?_);obtain⟨rfl,rfl⟩:=hv)
      simp only[zX,simprocAttr,i64,bV,iD,bD,kZ,e2,hn]
      (refine ak (hc _) (fun v s' hv=>?_);obtain⟨rfl,rfl⟩:=hv)
      simp only[zX,simprocAttr,i64,bV,iD,bD]
      first|exact aI _ _|exact⟨aI _ _,rfl⟩
theorem Qs {t:List Int}{F:Int}{n:Nat} (ih:ja t F n) (ht:t.length<=1000000) {g0:Nat}{most:Int}{kind:Int}{re:Re}{k eA:Int}{next:Goal}{i:Int}{c:aE}{st s1 st':bq}{b:Bool} (o:re.op=8)
  (hi0:0<=i) (mE:i<=t.length) (eO:re.set.length<=1000000000) (rX:re.kids.length<=1000000000) (iJ:c.length<=1000000000) (he:s1.empty=false) (ct:dY t F g0 most st s1)
  (hr:eE t (fG t F n) most re next i c s1=some (b,st')) :
  aq prog 82 [.rf 0 g0 0 0,.d (Goal.mk kind re k eA next).d,i64 i,.d (cy c)] (bF g0 t most F st) fun v s=>v=bV b/\s=bF g0 t most F st':=by
 unfold dY bF cW at ct
 simp only[i64,bV,iD,List.cons_append,List.nil_append]at ct
 have d4:decide (re.op=4)=false:=decide_eq_false (by omega)
 have d1:decide (re.op=1)=false:=decide_eq_false (by omega)
 have d2:decide (re.op=2)=false:=decide_eq_false (by omega)
 have d3:decide (re.op=3)=false:=decide_eq_false (by omega)
 have d5:decide (re.op=5)=false:=decide_eq_false (by omega)
 have d6:decide (re.op=6)=false:=decide_eq_false (by omega)
 have d7:decide (re.op=7)=false:=decide_eq_false (by omega)
 have d8:decide (re.op=8)=true:=decide_eq_true o
 unfold eE at hr
 rw[if_neg (by omega),if_neg (by omega),if_neg (by omega),if_neg (by omega),if_neg (by omega),if_pos (by omega)]at hr
 cases hk:re.kids with
 |nil=>rw[hk]at hr;cases hr
 |cons kid l =>
  rw[hk]at hr
  have nT:re.kids[0]?=some kid:=by rw[hk];rfl
  have ph:(0:Int)<(re.kids.length:Int):=by rw[hk,List.length_cons];omega
  simp only at hr
  cases hx:oZ (fG t F n) re.op kid i c s1 with
  |none=>rw[hx]at hr;cases hr
  |some x =>
   obtain⟨r1,s2⟩:=x
   rw[hx]at hr
   simp only at hr
   have hf:=fun ext=>Fi (g0:=g0) (most:=most) ih hk hi0 (by omega) hx ext
   clear hk
   unfold bF cW at hf
   simp only[aj re,i64,iD,bD,bV,List.cons_append,List.nil_append,he]at hf
   by_cases e2:s2.empty=true
   ·rw[if_pos e2]at hr
    simp only[Option.some.injEq,Prod.mk.injEq]at hr
    obtain⟨rfl,rfl⟩:=hr
    cases r1 with
    |none =>
     unfold bF cW
     refine an func82 rfl ntmps82 results82 rfl 3 26328072917139296674479506920917608079723773850137295405767982863 (by simp) (by simp) ?_
     simp only[zX,simprocAttr,i64,bV,Goal.bN,iD,bD,d4,d1,d2,d3,d5,d6,d7,d8]
     refine ak (ct _) (fun v s' hv=>?_)
     obtain⟨rfl,rfl⟩:=hv
     simp only[zX,simprocAttr,i64,bV,iD,bD,he,Bool.not_false,Bool.not_true,d4,d1,d2,d3,d5,d6,d7,d8]
     (refine ak (hf _) (fun v s' hv=>?_);obtain⟨rfl,rfl⟩:=hv)
     simp only[zX,simprocAttr,i64,bV,iD,bD,kZ,e2]
     first|exact aI _ _|exact⟨aI _ _,rfl⟩
    |some d =>
     unfold bF cW
     refine an func82 rfl ntmps82 results82 rfl 3 26328072917139296674479506920917608079723773850137295405767982863 (by simp) (by simp) ?_
     simp only[zX,simprocAttr,i64,bV,Goal.bN,iD,bD,d4,d1,d2,d3,d5,d6,d7,d8]
     refine ak (ct _) (fun v s' hv=>?_)
     obtain⟨rfl,rfl⟩:=hv
     simp only[zX,simprocAttr,i64,bV,iD,bD,he,Bool.not_false,Bool.not_true,d4,d1,d2,d3,d5,d6,d7,d8]
     (refine ak (hf _) (fun v s' hv=>?_);obtain⟨rfl,rfl⟩:=hv)
     simp only[zX,simprocAttr,i64,bV,iD,bD,kZ,e2]
     first|exact aI _ _|exact⟨aI _ _,rfl⟩
   ·rw[if_neg e2]at hr
    have e2:s2.empty=false:=by simpa using e2
    cases hn:re.neg with
    |true =>
     rw[if_pos hn]at hr
     cases r1 with
     |none =>
      simp only at hr
      have hc:=fun ext=>eG (ih g0 _ _ _ _ _ hr) ext
      unfold ey dL bF cW at hc;simp only[Goal.bN,i64,iD,bD,bV,List.cons_append,List.nil_append]at hc
      simp only[e2]at hc
      unfold bF cW
      refine an func82 rfl ntmps82 results82 rfl 3 26328072917139296674479506920917608079723773850137295405767982863 (by simp) (by simp) ?_
      simp only[zX,simprocAttr,i64,bV,Goal.bN,iD,bD,d4,d1,d2,d3,d5,d6,d7,d8]
      refine ak (ct _) (fun v s' hv=>?_)
      obtain⟨rfl,rfl⟩:=hv
      simp only[zX,simprocAttr,i64,bV,iD,bD,he,Bool.not_false,Bool.not_true,d4,d1,d2,d3,d5,d6,d7,d8]
      (refine ak (hf _) (fun v s' hv=>?_);obtain⟨rfl,rfl⟩:=hv)
      simp only[zX,simprocAttr,i64,bV,iD,bD,kZ,e2,hn]
      (refine ak (hc _) (fun v s' hv=>?_);obtain⟨rfl,rfl⟩:=hv)
      simp only[zX,simprocAttr,i64,bV,iD,bD]
      first|exact aI _ _|exact⟨aI _ _,rfl⟩
     |some d =>
      simp only[Option.some.injEq,Prod.mk.injEq]at hr
      obtain⟨rfl,rfl⟩:=hr
      unfold bF cW
      refine an func82 rfl ntmps82 results82 rfl 3 26328072917139296674479506920917608079723773850137295405767982863 (by simp) (by simp) ?_
      simp only[zX,simprocAttr,i64,bV,Goal.bN,iD,bD,d4,d1,d2,d3,d5,d6,d7,d8]
      refine ak (ct _) (fun v s' hv=>?_)
      obtain⟨rfl,rfl⟩:=hv
      simp only[zX,simprocAttr,i64,bV,iD,bD,he,Bool.not_false,Bool.not_true,d4,d1,d2,d3,d5,d6,d7,d8]
      (refine ak (hf _) (fun v s' hv=>?_);obtain⟨rfl,rfl⟩:=hv)
      simp only[zX,simprocAttr,i64,bV,iD,bD,kZ,e2,hn]
      first|exact aI _ _|exact⟨aI _ _,rfl⟩
    |false =>
     rw[if_neg (by rw[hn];decide)]at hr
     cases r1 with
     |none =>
      simp only[Option.some.injEq,Prod.mk.injEq]at hr
      obtain⟨rfl,rfl⟩:=hr
      unfold bF cW
      refine an func82 rfl ntmps82 results82 rfl 3 26328072917139296674479506920917608079723773850137295405767982863 (by simp) (by simp) ?_
      simp only[zX,simprocAttr,i64,bV,Goal.bN,iD,bD,d4,d1,d2,d3,d5,d6,d7,d8]
      refine ak (ct _) (fun v s' hv=>?_)
      obtain⟨rfl,rfl⟩:=hv
      simp only[zX,simprocAttr,i64,bV,iD,bD,he,Bool.not_false,Bool.not_true,d4,d1,d2,d3,d5,d6,d7,d8]
      (refine ak (hf _) (fun v s' hv=>?_);obtain⟨rfl,rfl⟩:=hv)
      simp only[zX,simprocAttr,i64,bV,iD,bD,kZ,e2,hn]
      first|exact aI _ _|exact⟨aI _ _,rfl⟩
     |some d =>
      simp only at hr
      have hc:=fun ext=>eG (ih g0 _ _ _ _ _ hr) ext
      unfold ey dL bF cW at hc;simp only[Goal.bN,i64,iD,bD,bV,List.cons_append,List.nil_append]at hc
      simp only[e2]at hc
      unfold bF cW
      refine an func82 rfl ntmps82 results82 rfl 3 26328072917139296674479506920917608079723773850137295405767982863 (by simp) (by simp) ?_
      simp only[zX,simprocAttr,i64,bV,Goal.bN,iD,bD,d4,d1,d2,d3,d5,d6,d7,d8]
      refine ak (ct _) (fun v s' hv=>?_)
      obtain⟨rfl,rfl⟩:=hv
      simp only[zX,simprocAttr,i64,bV,iD,bD,he,Bool.not_false,Bool.not_true,d4,d1,d2,d3,d5,d6,d7,d8]
      (refine ak (hf _) (fun v s' hv=>?_);obtain⟨rfl,rfl⟩:=hv)
      simp only[zX,simprocAttr,i64,bV,iD,bD,kZ,e2,hn]
      (refine ak (hc _) (fun v s' hv=>?_);obtain⟨rfl,rfl⟩:=hv)
      simp only[zX,simprocAttr,i64,bV,iD,bD]
      first|exact aI _ _|exact⟨aI _ _,rfl⟩
theorem MK {t:List Int}{F:Int}{n:Nat} (ih:ja t F n) (ht:t.length<=1000000) {g0:Nat}{most:Int}{kind:Int}{re:Re}{k eA:Int}{next:Goal}{i:Int}{c:aE}{st s1 st':bq}{b:Bool} (o:re.op=10)
  (hi0:0<=i) (mE:i<=t.length) (eO:re.set.length<=1000000000) (rX:re.kids.length<=1000000000) (iJ:c.length<=1000000000) (he:s1.empty=false) (ct:dY t F g0 most st s1)
  (hr:eE t (fG t F n) most re next i c s1=some (b,st')) :
  aq prog 82 [.rf 0 g0 0 0,.d (Goal.mk kind re k eA next).d,i64 i,.d (cy c)] (bF g0 t most F st) fun v s=>v=bV b/\s=bF g0 t most F st':=by
 unfold dY bF cW at ct
 simp only[i64,bV,iD,List.cons_append,List.nil_append]at ct
 have d4:decide (re.op=4)=false:=decide_eq_false (by omega)
 have d1:decide (re.op=1)=false:=decide_eq_false (by omega)
 have d2:decide (re.op=2)=false:=decide_eq_false (by omega)
 have d3:decide (re.op=3)=false:=decide_eq_false (by omega)
 have d5:decide (re.op=5)=false:=decide_eq_false (by omega)
 have d6:decide (re.op=6)=false:=decide_eq_false (by omega)
 have d7:decide (re.op=7)=false:=decide_eq_false (by omega)
 have d8:decide (re.op=8)=false:=decide_eq_false (by omega)
 have d9:decide (re.op=9)=false:=decide_eq_false (by omega)
 have d10:decide (re.op=10)=true:=decide_eq_true o
 unfold eE at hr
 rw[if_neg (by omega),if_neg (by omega),if_neg (by omega),if_neg (by omega),if_neg (by omega),if_neg (by omega),if_neg (by omega),if_pos o]at hr
 have mm:=HQ c re.n iJ
 simp only[i64]at mm
 match hk:re.kids with
 |[]=>rw[hk]at hr;cases hr
 |[_]=>rw[hk]at hr;cases hr
 |yes::no::l =>
  rw[hk]at hr
  have nT:re.kids[0]?=some yes:=by rw[hk];rfl
  have z0:re.kids[1]?=some no:=by rw[hk];rfl
  have ph:(0:Int)<(re.kids.length:Int):=by rw[hk,List.length_cons];omega
  have zw:(1:Int)<(re.kids.length:Int):=by rw[hk,List.length_cons,List.length_cons];omega
  clear hk
  simp only at hr
  by_cases q:0<=(ck c re.n).1
  ·rw[if_pos q]at hr
   have hc:=fun ext=>eG (ih g0 _ _ _ _ _ hr) ext
   unfold ey dL bF cW at hc;simp only[Goal.bN,i64,iD,bD,bV,List.cons_append,List.nil_append]at hc
   simp only[he]at hc
   unfold bF cW
   refine an func82 rfl ntmps82 results82 rfl 3 26328072917139296674479506920917608079723773850137295405767982863 (by simp) (by simp) ?_
   simp only[zX,simprocAttr,-Int.reduceNatCast',i64,bV,Goal.bN,iD,bD,d4,d1,d2,d3,d5,d6,d7,d8,d9,d10]
   refine ak (ct _) (fun v s' hv=>?_)
   obtain⟨rfl,rfl⟩:=hv
   simp only[zX,simprocAttr,-Int.reduceNatCast',i64,bV,iD,bD,he,Bool.not_false,Bool.not_true,d4,d1,d2,d3,d5,d6,d7,d8,d9,d10]
   refine al mm rfl rfl ?_
   simp only[zX,simprocAttr,-Int.reduceNatCast',i64,iD,bD,nT,ph,z0,zw,aj yes,Re.ae yes,aj no,Re.ae no,q,ge_iff_le]
   refine⟨by decide,?_⟩
   refine aT bZ.bk ?_
   refine ar mix [10] [(7,[6],[6])] (by rfl) ?_
   simp only[zX,simprocAttr,-Int.reduceNatCast',i64,bV,iD,bD,hole]
   refine eh (bA [6] (by simp [ca,bS,bh.go,bh,cA]) (hc _)) ?_
   simp only[zX,simprocAttr,-Int.reduceNatCast',i64,bV,iD,bD]
   first|exact aI _ _|exact⟨aI _ _,rfl⟩
  ·rw[if_neg q]at hr
   have hc:=fun ext=>eG (ih g0 _ _ _ _ _ hr) ext
   unfold ey dL bF cW at hc;simp only[Goal.bN,i64,iD,bD,bV,List.cons_append,List.nil_append]at hc
   simp only[he]at hc
   unfold bF cW
   refine an func82 rfl ntmps82 results82 rfl 3 26328072917139296674479506920917608079723773850137295405767982863 (by simp) (by simp) ?_
   simp only[zX,simprocAttr,-Int.reduceNatCast',i64,bV,Goal.bN,iD,bD,d4,d1,d2,d3,d5,d6,d7,d8,d9,d10]
   refine ak (ct _) (fun v s' hv=>?_)
   obtain⟨rfl,rfl⟩:=hv
   simp only[zX,simprocAttr,-Int.reduceNatCast',i64,bV,iD,bD,he,Bool.not_false,Bool.not_true,d4,d1,d2,d3,d5,d6,d7,d8,d9,d10]
   refine al mm rfl rfl ?_
   simp only[zX,simprocAttr,-Int.reduceNatCast',i64,iD,bD,nT,ph,z0,zw,aj yes,Re.ae yes,aj no,Re.ae no,q,ge_iff_le]
   refine⟨by decide,?_⟩
   refine aT bZ.bk ?_
   refine ar mix [10] [(7,[6],[6])] (by rfl) ?_
   simp only[zX,simprocAttr,-Int.reduceNatCast',i64,bV,iD,bD,hole]
   refine eh (bA [6] (by simp [ca,bS,bh.go,bh,cA]) (hc _)) ?_
   simp only[zX,simprocAttr,-Int.reduceNatCast',i64,bV,iD,bD]
   first|exact aI _ _|exact⟨aI _ _,rfl⟩
def Ij (re:Re):VL.Obj:=⟨0,true,8,[[i64 re.op,.d (.sl (re.set.map aV)),.d (.sl (re.kids.map Re.cells)),i64 re.mn,i64 re.mx,i64 re.mode,i64 re.n,bV re.neg]]⟩
theorem Mf (g0:Nat) (t:List Int) (most F:Int) (st:bq) (n:Nat) (hn:3<=n):(bF g0 t most F st).all (aQ n)=true:=by
 unfold bF cW
 simp only[List.all_cons,List.all_nil,aQ,Bool.and_true]
 rw[qd st.ends iD n,qd st.ai cy n]
 have h1:decide (1<n)=true:=decide_eq_true (by omega)
 have h2:decide (2<n)=true:=decide_eq_true (by omega)
 simp [ah,i64,bV,h1,h2]
theorem CR {α:Type}{l:List α}{j:Nat}{x:α} (h:l[j]?=some x):l.drop j=x::l.drop (j+1):=by
 obtain⟨h1,h2⟩:=List.getElem?_eq_some_iff.1 h
 rw[<- h2];exact List.drop_eq_getElem_cons h1
theorem PZ {t:List Int}{F:Int}{n:Nat} (ih:ja t F n) (ht:t.length<=1000000) {g0:Nat}{most:Int}{kind:Int}{re:Re}{k eA:Int}{next:Goal}{i:Int}{c:aE}{st s1 st':bq}{b:Bool} (o:re.op=3)
  (hi0:0<=i) (mE:i<=t.length) (eO:re.set.length<=1000000000) (rX:re.kids.length<=1000000000) (iJ:c.length<=1000000000) (he:s1.empty=false) (ct:dY t F g0 most st s1)
  (hr:eE t (fG t F n) most re next i c s1=some (b,st')) :
  aq prog 82 [.rf 0 g0 0 0,.d (Goal.mk kind re k eA next).d,i64 i,.d (cy c)] (bF g0 t most F st) fun v s=>v=bV b/\s=bF g0 t most F st':=by
 unfold dY bF cW at ct
 simp only[i64,bV,iD,List.cons_append,List.nil_append]at ct
 have d4:decide (re.op=4)=false:=decide_eq_false (by omega)
 have d1:decide (re.op=1)=false:=decide_eq_false (by omega)
 have d2:decide (re.op=2)=false:=decide_eq_false (by omega)
 have d3:decide (re.op=3)=true:=decide_eq_true o
 unfold eE at hr
 rw[if_neg (by omega),if_neg (by omega),if_pos o]at hr
 unfold bF cW
 refine an func82 rfl ntmps82 results82 rfl 3 26328072917139296674479506920917608079723773850137295405767982863 (by simp) (by simp) ?_
 simp only[zX,simprocAttr,-Int.reduceNatCast',i64,bV,Goal.bN,iD,bD,d4,d1,d2,d3]
 refine ak (ct _) (fun v s' hv=>?_)
 obtain⟨rfl,rfl⟩:=hv
 simp only[zX,simprocAttr,-Int.reduceNatCast',i64,bV,iD,bD,he,Bool.not_false,Bool.not_true,d4,d1,d2,d3]
 refine ay (fun m e s=>∃(j:Nat) (s2:bq),m=re.kids.length-j/\j<=re.kids.length/\e 0=.rf 0 g0 0 0/\e 1=.d (Goal.mk kind re k eA next).d/\e 2=i64 i/\e 3=.d (cy c)/\e 9=.rf 3 0 0 0/\e 12=i64 j/\s=bF g0 t most F s2++[Ij re] /\
   yf (fun k st=>fG t F n most (.run (.mk 0 k 0 0 next) i c) st) (re.kids.drop j) s2=some (b,st'))
  ⟨_,_,_,bI.refl,0,s1,rfl,by omega,rfl,?_,rfl,rfl,rfl,rfl,?_,by simpa using hr⟩ ?_
 ·rw[Goal.bN];rfl
 ·unfold bF cW Ij;simp only[he];rfl
 clear hr
 rintro m e s ⟨j,s2,rfl,hj,h0,h1,h2,h3,h9,iF,rfl,hb⟩
 rw[Goal.bN]at h1
 rcases Nat.lt_or_ge j re.kids.length with az|ib
 ·obtain⟨x,hx⟩:∃x,re.kids[j]?=some x:=⟨_,List.getElem?_eq_getElem az⟩
  rw[CR hx]at hb
  simp only[yf]at hb
  cases R4:fG t F n most (.run (.mk 0 x 0 0 next) i c) s2 with
  |none=>rw[R4]at hb;cases hb
  |some y =>
   obtain⟨b1,s3⟩:=y
   rw[R4]at hb
   have hc:=fun ext=>eG (ih g0 _ _ _ _ _ R4) ext
   unfold ey dL bF cW at hc;simp only[Goal.bN,i64,iD,bD,bV,List.cons_append,List.nil_append]at hc
   unfold bF cW Ij
   simp only[zX,simprocAttr,-Int.reduceNatCast',i64,bV,iD,bD,List.cons_append,List.nil_append,h0,h1,h2,h3,h9,iF,az,hx]
   refine aT bZ.bk ?_
   refine ar mix [14] [(11,[4],[4])] (by rfl) ?_
   simp only[zX,simprocAttr,-Int.reduceNatCast',i64,bV,iD,bD,hole,h0,h1,h2,h3,h9,iF,az,hx,aj x,Re.ae x]
   refine eh (bA [4] (by simp [ca,bS,bh.go,bh,cA]) (hc _)) ?_
   cases b1 with
   |true =>
    simp only[FJ,Option.some.injEq,Prod.mk.injEq]at hb
    obtain⟨rfl,rfl⟩:=hb
    simp only[zX,simprocAttr,-Int.reduceNatCast',i64,bV,iD,bD]
    first|exact aI _ _|exact⟨aI _ _,rfl⟩
   |false =>
    simp only[FJ]at hb
    simp only[zX,simprocAttr,-Int.reduceNatCast',i64,bV,iD,bD,h0,h1,h2,h3,h9,iF]
    refine⟨re.kids.length-(j+1),_,_,by omega,bI.cut (s':=bF g0 t most F s3++[Ij re]) 4 (by omega) rfl ?_ [0,1,2,3,9,12] ?_,j+1,s3,rfl,az,?_,?_,?_,?_,?_,?_,rfl,hb⟩
    ·have:=Mf g0 t most F s3 4 (by omega)
     rw[List.all_append,this];rfl
    ·simp [bB,aL,ah,i64,h0,h1,h2,h3,h9,iF]
    ·simpa [mJ,bB,aL,i64]using h0
    ·rw[Goal.bN];simpa [mJ,bB,aL,i64]using h1
    ·simpa [mJ,bB,aL,i64]using h2
    ·simpa [mJ,bB,aL,i64]using h3
    ·simpa [mJ,bB,aL,i64]using h9
    ·simp only[mJ,bB,List.contains_cons,List.contains_nil,Nat.reduceBEq,Bool.or_false,Bool.false_or,Bool.true_or,Bool.or_true,if_true,Bool.false_eq_true,if_false,reduceIte,Nat.reduceEqDiff]
     rw[br _ (by omega)];rfl
 ·have Lb:j=re.kids.length:=by omega
  subst Lb
  rw[List.drop_length]at hb
  simp only[yf,Option.some.injEq,Prod.mk.injEq]at hb
  obtain⟨rfl,rfl⟩:=hb
  unfold bF cW Ij
  simp only[zX,simprocAttr,-Int.reduceNatCast',i64,bV,iD,bD,List.cons_append,List.nil_append,h0,h1,h2,h3,h9,iF,Nat.lt_irrefl]
  first|exact aI _ _|exact⟨aI _ _,rfl⟩
end Go.Proofs.Ytfmdmlfhigocaaa
