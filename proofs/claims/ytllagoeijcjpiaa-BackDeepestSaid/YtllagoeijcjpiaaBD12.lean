/- A part of the proof (G11). -/
import Derived.Test.YtllagoeijcjpiaaBD11
set_option linter.unusedSimpArgs false
set_option linter.unusedVariables false
set_option maxRecDepth 100000
set_option maxHeartbeats 80000000
namespace Go.Proofs.Ytllagoeijcjpiaa
open Go.VL Go.Proofs.Try
theorem NR {t:List Int}{F:Int}{n:Nat} (ih:je t F n) (ht:t.length≤1000000) {g0:Nat}{ah:Int}{kind:Int}{re:Re}{k bO:Int}{next:Goal}{i:Int}{c:aq}{st s1 st':aU}{b:Bool} (o:re.op=9)
  (hi0:0≤i) (eK:i≤t.length) (cC:re.set.length≤1000000000) (cJ:re.kids.length≤1000000000) (cI:c.length≤1000000000) (he:s1.empty=false) (aH:eS t F g0 ah st s1)
  (hr:eQ t (eh t F n) ah re next i c s1=some (b,st')) :
  az prog 114 [.rf 0 g0 0 0,.d (Goal.mk kind re k bO next).d,i64 i,.d (bd c)] (b7 g0 t ah F st) fun v s=>v=bV b∧s=b7 g0 t ah F st':=by
 unfold eS b7 dN at aH
 simp only[i64,bV,iD,Vz,Vx]at aH
 have d4:decide (re.op=4)=false:=decide_eq_false (by omega)
 have d1:decide (re.op=1)=false:=decide_eq_false (by omega)
 have d2:decide (re.op=2)=false:=decide_eq_false (by omega)
 have d3:decide (re.op=3)=false:=decide_eq_false (by omega)
 have d5:decide (re.op=5)=false:=decide_eq_false (by omega)
 have d6:decide (re.op=6)=false:=decide_eq_false (by omega)
 have d7:decide (re.op=7)=false:=decide_eq_false (by omega)
 have d8:decide (re.op=8)=false:=decide_eq_false (by omega)
 have d9:decide (re.op=9)=true:=decide_eq_true o
 unfold eQ at hr
 rw[if_neg (by omega),if_neg (by omega),if_neg (by omega),if_neg (by omega),if_neg (by omega),if_neg (by omega),if_pos o]at hr
 have mZ:Goal.nil.d=.sc (.pointer none):=rfl
 cases hk:re.kids with
 |nil=>rw[hk]at hr;cases hr
 |cons kid l =>
  rw[hk]at hr
  have dL:re.kids[0]?=some kid:=by rw[hk];rfl
  have dg:(0:Int)<(re.kids.length:Int):=by rw[hk,VC];omega
  clear hk
  simp only at hr
  cases hx:cT (eh t F n) (.mk 0 kid 0 0 .nil) i c s1 with
  |none=>rw[hx]at hr;cases hr
  |some x =>
   obtain⟨r1,s2⟩:=x
   rw[hx]at hr
   simp only at hr
   have hf:=fun ext=>uU (g0:=g0) (ah:=ah) ih hx ext
   unfold b7 dN at hf
   simp only[Goal.aN,mZ,i64,iD,bD,bV,Vz,Vx,he]at hf
   by_cases e2:s2.empty=true
   ·rw[if_pos e2]at hr
    simp only[Option.some.injEq,Prod.mk.injEq]at hr
    obtain⟨rfl,rfl⟩:=hr
    cases r1 with
    |none =>
     unfold b7 dN
     refine av func114 rfl ntmps114 results114 rfl 3 26328072917139296674479506920917608079723773850137295405767982863 (by simp) (by simp) ?_
     simp only[zX,simprocAttr,i64,bV,Goal.aN,iD,bD,d4,d1,d2,d3,d5,d6,d7,d8,d9]
     refine aj (aH _) (fun v s' hv=>?_)
     obtain⟨rfl,rfl⟩:=hv
     simp only[zX,simprocAttr,i64,bV,iD,bD,he,Vt,Vs,d4,d1,d2,d3,d5,d6,d7,d8,d9]
     simp only[zX,simprocAttr,i64,iD,bD,dL,dg,aw kid,Re.ae kid]
     refine aP [4] (by simp [bk,bA,aZ.go,aZ,bQ]) (aj (hf _) (fun v s' hv=>?_))
     obtain⟨rfl,rfl⟩:=hv
     simp only[zX,simprocAttr,i64,bV,iD,bD,ju,e2]
     first|exact ba _ _|exact⟨ba _ _,rfl⟩
    |some p =>
     obtain⟨e1,d⟩:=p
     unfold b7 dN
     refine av func114 rfl ntmps114 results114 rfl 3 26328072917139296674479506920917608079723773850137295405767982863 (by simp) (by simp) ?_
     simp only[zX,simprocAttr,i64,bV,Goal.aN,iD,bD,d4,d1,d2,d3,d5,d6,d7,d8,d9]
     refine aj (aH _) (fun v s' hv=>?_)
     obtain⟨rfl,rfl⟩:=hv
     simp only[zX,simprocAttr,i64,bV,iD,bD,he,Vt,Vs,d4,d1,d2,d3,d5,d6,d7,d8,d9]
     simp only[zX,simprocAttr,i64,iD,bD,dL,dg,aw kid,Re.ae kid]
     refine aP [4] (by simp [bk,bA,aZ.go,aZ,bQ]) (aj (hf _) (fun v s' hv=>?_))
     obtain⟨rfl,rfl⟩:=hv
     simp only[zX,simprocAttr,i64,bV,iD,bD,ju,e2]
     first|exact ba _ _|exact⟨ba _ _,rfl⟩
   ·rw[if_neg e2]at hr
    have e2:s2.empty=false:=by simpa using e2
    cases r1 with
    |none =>
     simp only[Option.some.injEq,Prod.mk.injEq]at hr
     obtain⟨rfl,rfl⟩:=hr
     unfold b7 dN
     refine av func114 rfl ntmps114 results114 rfl 3 26328072917139296674479506920917608079723773850137295405767982863 (by simp) (by simp) ?_
     simp only[zX,simprocAttr,i64,bV,Goal.aN,iD,bD,d4,d1,d2,d3,d5,d6,d7,d8,d9]
     refine aj (aH _) (fun v s' hv=>?_)
     obtain⟨rfl,rfl⟩:=hv
     simp only[zX,simprocAttr,i64,bV,iD,bD,he,Vt,Vs,d4,d1,d2,d3,d5,d6,d7,d8,d9]
     simp only[zX,simprocAttr,i64,iD,bD,dL,dg,aw kid,Re.ae kid]
     refine aP [4] (by simp [bk,bA,aZ.go,aZ,bQ]) (aj (hf _) (fun v s' hv=>?_))
     obtain⟨rfl,rfl⟩:=hv
     simp only[zX,simprocAttr,i64,bV,iD,bD,ju,e2]
     first|exact ba _ _|exact⟨ba _ _,rfl⟩
    |some p =>
     obtain⟨e1,d⟩:=p
     simp only at hr
     have hc:=fun ext=>fo (ih g0 _ _ _ _ _ hr) ext
     unfold e8 eE b7 dN at hc;simp only[Goal.aN,i64,iD,bD,bV,Vz,Vx]at hc
     simp only[e2]at hc
     unfold b7 dN
     refine av func114 rfl ntmps114 results114 rfl 3 26328072917139296674479506920917608079723773850137295405767982863 (by simp) (by simp) ?_
     simp only[zX,simprocAttr,i64,bV,Goal.aN,iD,bD,d4,d1,d2,d3,d5,d6,d7,d8,d9]
     refine aj (aH _) (fun v s' hv=>?_)
     obtain⟨rfl,rfl⟩:=hv
     simp only[zX,simprocAttr,i64,bV,iD,bD,he,Vt,Vs,d4,d1,d2,d3,d5,d6,d7,d8,d9]
     simp only[zX,simprocAttr,i64,iD,bD,dL,dg,aw kid,Re.ae kid]
     refine aP [4] (by simp [bk,bA,aZ.go,aZ,bQ]) (aj (hf _) (fun v s' hv=>?_))
     obtain⟨rfl,rfl⟩:=hv
     simp only[zX,simprocAttr,i64,bV,iD,bD,ju,e2]
     (refine aj (hc _) (fun v s' hv=>?_);obtain⟨rfl,rfl⟩:=hv)
     simp only[zX,simprocAttr,i64,bV,iD,bD]
     first|exact ba _ _|exact⟨ba _ _,rfl⟩
theorem N7 {t:List Int}{F:Int}{n:Nat} (ih:je t F n) (ht:t.length≤1000000) {g0:Nat}{ah:Int}{kind:Int}{re:Re}{k bO:Int}{next:Goal}{i:Int}{c:aq}{st s1 st':aU}{b:Bool} (o:re.op=7)
  (hi0:0≤i) (eK:i≤t.length) (cC:re.set.length≤1000000000) (cJ:re.kids.length≤1000000000) (cI:c.length≤1000000000) (he:s1.empty=false) (aH:eS t F g0 ah st s1)
  (hr:eQ t (eh t F n) ah re next i c s1=some (b,st')) :
  az prog 114 [.rf 0 g0 0 0,.d (Goal.mk kind re k bO next).d,i64 i,.d (bd c)] (b7 g0 t ah F st) fun v s=>v=bV b∧s=b7 g0 t ah F st':=by
 unfold eS b7 dN at aH
 simp only[i64,bV,iD,Vz,Vx]at aH
 have d4:decide (re.op=4)=false:=decide_eq_false (by omega)
 have d1:decide (re.op=1)=false:=decide_eq_false (by omega)
 have d2:decide (re.op=2)=false:=decide_eq_false (by omega)
 have d3:decide (re.op=3)=false:=decide_eq_false (by omega)
 have d5:decide (re.op=5)=false:=decide_eq_false (by omega)
 have d6:decide (re.op=6)=false:=decide_eq_false (by omega)
 have d7:decide (re.op=7)=true:=decide_eq_true o
 unfold eQ at hr
 rw[if_neg (by omega),if_neg (by omega),if_neg (by omega),if_neg (by omega),if_neg (by omega),if_pos (by omega)]at hr
 cases hk:re.kids with
 |nil=>rw[hk]at hr;cases hr
 |cons kid l =>
  rw[hk]at hr
  have dL:re.kids[0]?=some kid:=by rw[hk];rfl
  have dg:(0:Int)<(re.kids.length:Int):=by rw[hk,VC];omega
  simp only at hr
  cases hx:kN (eh t F n) re.op kid i c s1 with
  |none=>rw[hx]at hr;cases hr
  |some x =>
   obtain⟨r1,s2⟩:=x
   rw[hx]at hr
   simp only at hr
   have hf:=fun ext=>DM (g0:=g0) (ah:=ah) ih hk hi0 (by omega) hx ext
   clear hk
   unfold b7 dN at hf
   simp only[aw re,i64,iD,bD,bV,Vz,Vx,he]at hf
   by_cases e2:s2.empty=true
   ·rw[if_pos e2]at hr
    simp only[Option.some.injEq,Prod.mk.injEq]at hr
    obtain⟨rfl,rfl⟩:=hr
    cases r1 with
    |none =>
     unfold b7 dN
     refine av func114 rfl ntmps114 results114 rfl 3 26328072917139296674479506920917608079723773850137295405767982863 (by simp) (by simp) ?_
     simp only[zX,simprocAttr,i64,bV,Goal.aN,iD,bD,d4,d1,d2,d3,d5,d6,d7]
     refine aj (aH _) (fun v s' hv=>?_)
     obtain⟨rfl,rfl⟩:=hv
     simp only[zX,simprocAttr,i64,bV,iD,bD,he,Vt,Vs,d4,d1,d2,d3,d5,d6,d7]
     (refine aj (hf _) (fun v s' hv=>?_);obtain⟨rfl,rfl⟩:=hv)
     simp only[zX,simprocAttr,i64,bV,iD,bD,kO,e2]
     first|exact ba _ _|exact⟨ba _ _,rfl⟩
    |some d =>
     unfold b7 dN
     refine av func114 rfl ntmps114 results114 rfl 3 26328072917139296674479506920917608079723773850137295405767982863 (by simp) (by simp) ?_
     simp only[zX,simprocAttr,i64,bV,Goal.aN,iD,bD,d4,d1,d2,d3,d5,d6,d7]
     refine aj (aH _) (fun v s' hv=>?_)
     obtain⟨rfl,rfl⟩:=hv
     simp only[zX,simprocAttr,i64,bV,iD,bD,he,Vt,Vs,d4,d1,d2,d3,d5,d6,d7]
     (refine aj (hf _) (fun v s' hv=>?_);obtain⟨rfl,rfl⟩:=hv)
     simp only[zX,simprocAttr,i64,bV,iD,bD,kO,e2]
     first|exact ba _ _|exact⟨ba _ _,rfl⟩
   ·rw[if_neg e2]at hr
    have e2:s2.empty=false:=by simpa using e2
    cases hn:re.neg with
    |true =>
     rw[if_pos hn]at hr
     cases r1 with
     |none =>
      simp only at hr
      have hc:=fun ext=>fo (ih g0 _ _ _ _ _ hr) ext
      unfold e8 eE b7 dN at hc;simp only[Goal.aN,i64,iD,bD,bV,Vz,Vx]at hc
      simp only[e2]at hc
      unfold b7 dN
      refine av func114 rfl ntmps114 results114 rfl 3 26328072917139296674479506920917608079723773850137295405767982863 (by simp) (by simp) ?_
      simp only[zX,simprocAttr,i64,bV,Goal.aN,iD,bD,d4,d1,d2,d3,d5,d6,d7]
      refine aj (aH _) (fun v s' hv=>?_)
      obtain⟨rfl,rfl⟩:=hv
      simp only[zX,simprocAttr,i64,bV,iD,bD,he,Vt,Vs,d4,d1,d2,d3,d5,d6,d7]
      (refine aj (hf _) (fun v s' hv=>?_);obtain⟨rfl,rfl⟩:=hv)
      simp only[zX,simprocAttr,i64,bV,iD,bD,kO,e2,hn]
      (refine aj (hc _) (fun v s' hv=>?_);obtain⟨rfl,rfl⟩:=hv)
      simp only[zX,simprocAttr,i64,bV,iD,bD]
      first|exact ba _ _|exact⟨ba _ _,rfl⟩
     |some d =>
      simp only[Option.some.injEq,Prod.mk.injEq]at hr
      obtain⟨rfl,rfl⟩:=hr
      unfold b7 dN
      refine av func114 rfl ntmps114 results114 rfl 3 26328072917139296674479506920917608079723773850137295405767982863 (by simp) (by simp) ?_
      simp only[zX,simprocAttr,i64,bV,Goal.aN,iD,bD,d4,d1,d2,d3,d5,d6,d7]
      refine aj (aH _) (fun v s' hv=>?_)
      obtain⟨rfl,rfl⟩:=hv
      simp only[zX,simprocAttr,i64,bV,iD,bD,he,Vt,Vs,d4,d1,d2,d3,d5,d6,d7]
      (refine aj (hf _) (fun v s' hv=>?_);obtain⟨rfl,rfl⟩:=hv)
      simp only[zX,simprocAttr,i64,bV,iD,bD,kO,e2,hn]
      first|exact ba _ _|exact⟨ba _ _,rfl⟩
    |false =>
     rw[if_neg (by rw[hn];decide)]at hr
     cases r1 with
     |none =>
      simp only[Option.some.injEq,Prod.mk.injEq]at hr
      obtain⟨rfl,rfl⟩:=hr
      unfold b7 dN
      refine av func114 rfl ntmps114 results114 rfl 3 26328072917139296674479506920917608079723773850137295405767982863 (by simp) (by simp) ?_
      simp only[zX,simprocAttr,i64,bV,Goal.aN,iD,bD,d4,d1,d2,d3,d5,d6,d7]
      refine aj (aH _) (fun v s' hv=>?_)
      obtain⟨rfl,rfl⟩:=hv
      simp only[zX,simprocAttr,i64,bV,iD,bD,he,Vt,Vs,d4,d1,d2,d3,d5,d6,d7]
      (refine aj (hf _) (fun v s' hv=>?_);obtain⟨rfl,rfl⟩:=hv)
      simp only[zX,simprocAttr,i64,bV,iD,bD,kO,e2,hn]
      first|exact ba _ _|exact⟨ba _ _,rfl⟩
     |some d =>
      simp only at hr
      have hc:=fun ext=>fo (ih g0 _ _ _ _ _ hr) ext
      unfold e8 eE b7 dN at hc;simp only[Goal.aN,i64,iD,bD,bV,Vz,Vx]at hc
      simp only[e2]at hc
      unfold b7 dN
      refine av func114 rfl ntmps114 results114 rfl 3 26328072917139296674479506920917608079723773850137295405767982863 (by simp) (by simp) ?_
      simp only[zX,simprocAttr,i64,bV,Goal.aN,iD,bD,d4,d1,d2,d3,d5,d6,d7]
      refine aj (aH _) (fun v s' hv=>?_)
      obtain⟨rfl,rfl⟩:=hv
      simp only[zX,simprocAttr,i64,bV,iD,bD,he,Vt,Vs,d4,d1,d2,d3,d5,d6,d7]
      (refine aj (hf _) (fun v s' hv=>?_);obtain⟨rfl,rfl⟩:=hv)
      simp only[zX,simprocAttr,i64,bV,iD,bD,kO,e2,hn]
      (refine aj (hc _) (fun v s' hv=>?_);obtain⟨rfl,rfl⟩:=hv)
      simp only[zX,simprocAttr,i64,bV,iD,bD]
      first|exact ba _ _|exact⟨ba _ _,rfl⟩
theorem Oq {t:List Int}{F:Int}{n:Nat} (ih:je t F n) (ht:t.length≤1000000) {g0:Nat}{ah:Int}{kind:Int}{re:Re}{k bO:Int}{next:Goal}{i:Int}{c:aq}{st s1 st':aU}{b:Bool} (o:re.op=8)
  (hi0:0≤i) (eK:i≤t.length) (cC:re.set.length≤1000000000) (cJ:re.kids.length≤1000000000) (cI:c.length≤1000000000) (he:s1.empty=false) (aH:eS t F g0 ah st s1)
  (hr:eQ t (eh t F n) ah re next i c s1=some (b,st')) :
  az prog 114 [.rf 0 g0 0 0,.d (Goal.mk kind re k bO next).d,i64 i,.d (bd c)] (b7 g0 t ah F st) fun v s=>v=bV b∧s=b7 g0 t ah F st':=by
 unfold eS b7 dN at aH
 simp only[i64,bV,iD,Vz,Vx]at aH
 have d4:decide (re.op=4)=false:=decide_eq_false (by omega)
 have d1:decide (re.op=1)=false:=decide_eq_false (by omega)
 have d2:decide (re.op=2)=false:=decide_eq_false (by omega)
 have d3:decide (re.op=3)=false:=decide_eq_false (by omega)
 have d5:decide (re.op=5)=false:=decide_eq_false (by omega)
 have d6:decide (re.op=6)=false:=decide_eq_false (by omega)
 have d7:decide (re.op=7)=false:=decide_eq_false (by omega)
 have d8:decide (re.op=8)=true:=decide_eq_true o
 unfold eQ at hr
 rw[if_neg (by omega),if_neg (by omega),if_neg (by omega),if_neg (by omega),if_neg (by omega),if_pos (by omega)]at hr
 cases hk:re.kids with
 |nil=>rw[hk]at hr;cases hr
 |cons kid l =>
  rw[hk]at hr
  have dL:re.kids[0]?=some kid:=by rw[hk];rfl
  have dg:(0:Int)<(re.kids.length:Int):=by rw[hk,VC];omega
  simp only at hr
  cases hx:kN (eh t F n) re.op kid i c s1 with
  |none=>rw[hx]at hr;cases hr
  |some x =>
   obtain⟨r1,s2⟩:=x
   rw[hx]at hr
   simp only at hr
   have hf:=fun ext=>DM (g0:=g0) (ah:=ah) ih hk hi0 (by omega) hx ext
   clear hk
   unfold b7 dN at hf
   simp only[aw re,i64,iD,bD,bV,Vz,Vx,he]at hf
   by_cases e2:s2.empty=true
   ·rw[if_pos e2]at hr
    simp only[Option.some.injEq,Prod.mk.injEq]at hr
    obtain⟨rfl,rfl⟩:=hr
    cases r1 with
    |none =>
     unfold b7 dN
     refine av func114 rfl ntmps114 results114 rfl 3 26328072917139296674479506920917608079723773850137295405767982863 (by simp) (by simp) ?_
     simp only[zX,simprocAttr,i64,bV,Goal.aN,iD,bD,d4,d1,d2,d3,d5,d6,d7,d8]
     refine aj (aH _) (fun v s' hv=>?_)
     obtain⟨rfl,rfl⟩:=hv
     simp only[zX,simprocAttr,i64,bV,iD,bD,he,Vt,Vs,d4,d1,d2,d3,d5,d6,d7,d8]
     (refine aj (hf _) (fun v s' hv=>?_);obtain⟨rfl,rfl⟩:=hv)
     simp only[zX,simprocAttr,i64,bV,iD,bD,kO,e2]
     first|exact ba _ _|exact⟨ba _ _,rfl⟩
    |some d =>
     unfold b7 dN
     refine av func114 rfl ntmps114 results114 rfl 3 26328072917139296674479506920917608079723773850137295405767982863 (by simp) (by simp) ?_
     simp only[zX,simprocAttr,i64,bV,Goal.aN,iD,bD,d4,d1,d2,d3,d5,d6,d7,d8]
     refine aj (aH _) (fun v s' hv=>?_)
     obtain⟨rfl,rfl⟩:=hv
     simp only[zX,simprocAttr,i64,bV,iD,bD,he,Vt,Vs,d4,d1,d2,d3,d5,d6,d7,d8]
     (refine aj (hf _) (fun v s' hv=>?_);obtain⟨rfl,rfl⟩:=hv)
     simp only[zX,simprocAttr,i64,bV,iD,bD,kO,e2]
     first|exact ba _ _|exact⟨ba _ _,rfl⟩
   ·rw[if_neg e2]at hr
    have e2:s2.empty=false:=by simpa using e2
    cases hn:re.neg with
    |true =>
     rw[if_pos hn]at hr
     cases r1 with
     |none =>
      simp only at hr
      have hc:=fun ext=>fo (ih g0 _ _ _ _ _ hr) ext
      unfold e8 eE b7 dN at hc;simp only[Goal.aN,i64,iD,bD,bV,Vz,Vx]at hc
      simp only[e2]at hc
      unfold b7 dN
      refine av func114 rfl ntmps114 results114 rfl 3 26328072917139296674479506920917608079723773850137295405767982863 (by simp) (by simp) ?_
      simp only[zX,simprocAttr,i64,bV,Goal.aN,iD,bD,d4,d1,d2,d3,d5,d6,d7,d8]
      refine aj (aH _) (fun v s' hv=>?_)
      obtain⟨rfl,rfl⟩:=hv
      simp only[zX,simprocAttr,i64,bV,iD,bD,he,Vt,Vs,d4,d1,d2,d3,d5,d6,d7,d8]
      (refine aj (hf _) (fun v s' hv=>?_);obtain⟨rfl,rfl⟩:=hv)
      simp only[zX,simprocAttr,i64,bV,iD,bD,kO,e2,hn]
      (refine aj (hc _) (fun v s' hv=>?_);obtain⟨rfl,rfl⟩:=hv)
      simp only[zX,simprocAttr,i64,bV,iD,bD]
      first|exact ba _ _|exact⟨ba _ _,rfl⟩
     |some d =>
      simp only[Option.some.injEq,Prod.mk.injEq]at hr
      obtain⟨rfl,rfl⟩:=hr
      unfold b7 dN
      refine av func114 rfl ntmps114 results114 rfl 3 26328072917139296674479506920917608079723773850137295405767982863 (by simp) (by simp) ?_
      simp only[zX,simprocAttr,i64,bV,Goal.aN,iD,bD,d4,d1,d2,d3,d5,d6,d7,d8]
      refine aj (aH _) (fun v s' hv=>?_)
      obtain⟨rfl,rfl⟩:=hv
      simp only[zX,simprocAttr,i64,bV,iD,bD,he,Vt,Vs,d4,d1,d2,d3,d5,d6,d7,d8]
      (refine aj (hf _) (fun v s' hv=>?_);obtain⟨rfl,rfl⟩:=hv)
      simp only[zX,simprocAttr,i64,bV,iD,bD,kO,e2,hn]
      first|exact ba _ _|exact⟨ba _ _,rfl⟩
    |false =>
     rw[if_neg (by rw[hn];decide)]at hr
     cases r1 with
     |none =>
      simp only[Option.some.injEq,Prod.mk.injEq]at hr
      obtain⟨rfl,rfl⟩:=hr
      unfold b7 dN
      refine av func114 rfl ntmps114 results114 rfl 3 26328072917139296674479506920917608079723773850137295405767982863 (by simp) (by simp) ?_
      simp only[zX,simprocAttr,i64,bV,Goal.aN,iD,bD,d4,d1,d2,d3,d5,d6,d7,d8]
      refine aj (aH _) (fun v s' hv=>?_)
      obtain⟨rfl,rfl⟩:=hv
      simp only[zX,simprocAttr,i64,bV,iD,bD,he,Vt,Vs,d4,d1,d2,d3,d5,d6,d7,d8]
      (refine aj (hf _) (fun v s' hv=>?_);obtain⟨rfl,rfl⟩:=hv)
      simp only[zX,simprocAttr,i64,bV,iD,bD,kO,e2,hn]
      first|exact ba _ _|exact⟨ba _ _,rfl⟩
     |some d =>
      simp only at hr
      have hc:=fun ext=>fo (ih g0 _ _ _ _ _ hr) ext
      unfold e8 eE b7 dN at hc;simp only[Goal.aN,i64,iD,bD,bV,Vz,Vx]at hc
      simp only[e2]at hc
      unfold b7 dN
      refine av func114 rfl ntmps114 results114 rfl 3 26328072917139296674479506920917608079723773850137295405767982863 (by simp) (by simp) ?_
      simp only[zX,simprocAttr,i64,bV,Goal.aN,iD,bD,d4,d1,d2,d3,d5,d6,d7,d8]
      refine aj (aH _) (fun v s' hv=>?_)
      obtain⟨rfl,rfl⟩:=hv
      simp only[zX,simprocAttr,i64,bV,iD,bD,he,Vt,Vs,d4,d1,d2,d3,d5,d6,d7,d8]
      (refine aj (hf _) (fun v s' hv=>?_);obtain⟨rfl,rfl⟩:=hv)
      simp only[zX,simprocAttr,i64,bV,iD,bD,kO,e2,hn]
      (refine aj (hc _) (fun v s' hv=>?_);obtain⟨rfl,rfl⟩:=hv)
      simp only[zX,simprocAttr,i64,bV,iD,bD]
      first|exact ba _ _|exact⟨ba _ _,rfl⟩
end Go.Proofs.Ytllagoeijcjpiaa
