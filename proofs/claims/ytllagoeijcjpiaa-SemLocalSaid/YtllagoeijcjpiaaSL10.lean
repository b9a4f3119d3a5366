/- A part of the proof (G11). -/
import Derived.Test.YtllagoeijcjpiaaSL9
set_option linter.unusedSimpArgs false
set_option linter.unusedVariables false
set_option maxRecDepth 100000
set_option maxHeartbeats 80000000
namespace Go.Proofs.Ytllagoeijcjpiaa
open Go.VL Go.Proofs.Try
theorem node_9 {t:List Int} {F:Int} {n:Nat} (ih:RunOK t F n) (ht:t.length≤1000000) {g0:Nat} {most:Int} {kind:Int} {re:Re} {k frm:Int} {next:Goal} {i:Int} {c:CapsL} {st s1 st':Sst} {b:Bool} (o:re.op=9)
  (hi0:0≤i) (hi1:i≤t.length) (hset:re.set.length≤1000000000) (hkids:re.kids.length≤1000000000) (hcl:c.length≤1000000000) (he:s1.empty=false) (hst:StepTo t F g0 most st s1)
  (hr:nodeR t (evR t F n) most re next i c s1=some (b,st')) :
  callWp prog 114 [.rf 0 g0 0 0,.d (Goal.mk kind re k frm next).d,i64 i,.d (capD c)] (srS g0 t most F st) fun v s=>v=bV b∧s=srS g0 t most F st':=by
 unfold StepTo srS srO at hst
 simp only[i64,bV,iD,List.cons_append,List.nil_append] at hst
 have d4:decide (re.op=4)=false:=decide_eq_false (by omega)
 have d1:decide (re.op=1)=false:=decide_eq_false (by omega)
 have d2:decide (re.op=2)=false:=decide_eq_false (by omega)
 have d3:decide (re.op=3)=false:=decide_eq_false (by omega)
 have d5:decide (re.op=5)=false:=decide_eq_false (by omega)
 have d6:decide (re.op=6)=false:=decide_eq_false (by omega)
 have d7:decide (re.op=7)=false:=decide_eq_false (by omega)
 have d8:decide (re.op=8)=false:=decide_eq_false (by omega)
 have d9:decide (re.op=9)=true:=decide_eq_true o
 unfold nodeR at hr
 rw[if_neg (by omega),if_neg (by omega),if_neg (by omega),if_neg (by omega),if_neg (by omega),if_neg (by omega),if_pos o] at hr
 have hnil:Goal.nil.d=.sc (.pointer none):=rfl
 cases hk:re.kids with
 | nil=>rw[hk] at hr; cases hr
 | cons kid l =>
  rw[hk] at hr
  have hk0:re.kids[0]?=some kid:=by rw[hk]; rfl
  have hl0:(0:Int) < (re.kids.length:Int):=by rw[hk,List.length_cons]; omega
  clear hk
  simp only at hr
  cases hx:firstR (evR t F n) (.mk 0 kid 0 0 .nil) i c s1 with
  | none=>rw[hx] at hr; cases hr
  | some x =>
   obtain⟨r1,s2⟩:=x
   rw[hx] at hr
   simp only at hr
   have hf:=fun ext=>first_ext (g0:=g0) (most:=most) ih hx ext
   unfold srS srO at hf
   simp only[Goal.d_mk,hnil,i64,iD,bD,bV,List.cons_append,List.nil_append,he] at hf
   by_cases e2:s2.empty=true
   ·rw[if_pos e2] at hr
    simp only[Option.some.injEq,Prod.mk.injEq] at hr
    obtain⟨rfl,rfl⟩:=hr
    cases r1 with
    | none =>
     unfold srS srO
     refine fn_ok func114 rfl ntmps114 results114 rfl 3 26328072917139296674479506920917608079723773850137295405767982863 (by simp) (by simp) ?_
     simp only[zX,simprocAttr,i64,bV,Goal.d_mk,iD,bD,d4,d1,d2,d3,d5,d6,d7,d8,d9]
     refine callWp_mono (hst _) (fun v s' hv=>?_)
     obtain⟨rfl,rfl⟩:=hv
     simp only[zX,simprocAttr,i64,bV,iD,bD,he,Bool.not_false,Bool.not_true,d4,d1,d2,d3,d5,d6,d7,d8,d9]
     simp only[zX,simprocAttr,i64,iD,bD,hk0,hl0,reV_eq kid,Re.cells_eq kid]
     refine call_give [4] (by simp [killO,kill1,frzV.go,frzV,frzD]) (callWp_mono (hf _) (fun v s' hv=>?_))
     obtain⟨rfl,rfl⟩:=hv
     simp only[zX,simprocAttr,i64,bV,iD,bD,foundV,e2]
     first | exact andAll _ _ | exact⟨andAll _ _,rfl⟩
    | some p =>
     obtain⟨e1,d⟩:=p
     unfold srS srO
     refine fn_ok func114 rfl ntmps114 results114 rfl 3 26328072917139296674479506920917608079723773850137295405767982863 (by simp) (by simp) ?_
     simp only[zX,simprocAttr,i64,bV,Goal.d_mk,iD,bD,d4,d1,d2,d3,d5,d6,d7,d8,d9]
     refine callWp_mono (hst _) (fun v s' hv=>?_)
     obtain⟨rfl,rfl⟩:=hv
     simp only[zX,simprocAttr,i64,bV,iD,bD,he,Bool.not_false,Bool.not_true,d4,d1,d2,d3,d5,d6,d7,d8,d9]
     simp only[zX,simprocAttr,i64,iD,bD,hk0,hl0,reV_eq kid,Re.cells_eq kid]
     refine call_give [4] (by simp [killO,kill1,frzV.go,frzV,frzD]) (callWp_mono (hf _) (fun v s' hv=>?_))
     obtain⟨rfl,rfl⟩:=hv
     simp only[zX,simprocAttr,i64,bV,iD,bD,foundV,e2]
     first | exact andAll _ _ | exact⟨andAll _ _,rfl⟩
   ·rw[if_neg e2] at hr
    have e2:s2.empty=false:=by simpa using e2
    cases r1 with
    | none =>
     simp only[Option.some.injEq,Prod.mk.injEq] at hr
     obtain⟨rfl,rfl⟩:=hr
     unfold srS srO
     refine fn_ok func114 rfl ntmps114 results114 rfl 3 26328072917139296674479506920917608079723773850137295405767982863 (by simp) (by simp) ?_
     simp only[zX,simprocAttr,i64,bV,Goal.d_mk,iD,bD,d4,d1,d2,d3,d5,d6,d7,d8,d9]
     refine callWp_mono (hst _) (fun v s' hv=>?_)
     obtain⟨rfl,rfl⟩:=hv
     simp only[zX,simprocAttr,i64,bV,iD,bD,he,Bool.not_false,Bool.not_true,d4,d1,d2,d3,d5,d6,d7,d8,d9]
     simp only[zX,simprocAttr,i64,iD,bD,hk0,hl0,reV_eq kid,Re.cells_eq kid]
     refine call_give [4] (by simp [killO,kill1,frzV.go,frzV,frzD]) (callWp_mono (hf _) (fun v s' hv=>?_))
     obtain⟨rfl,rfl⟩:=hv
     simp only[zX,simprocAttr,i64,bV,iD,bD,foundV,e2]
     first | exact andAll _ _ | exact⟨andAll _ _,rfl⟩
    | some p =>
     obtain⟨e1,d⟩:=p
     simp only at hr
     have hc:=fun ext=>sr_ext (ih g0 _ _ _ _ _ hr) ext
     unfold taskF taskA srS srO at hc; simp only[Goal.d_mk,i64,iD,bD,bV,List.cons_append,List.nil_append] at hc
     simp only[e2] at hc
     unfold srS srO
     refine fn_ok func114 rfl ntmps114 results114 rfl 3 26328072917139296674479506920917608079723773850137295405767982863 (by simp) (by simp) ?_
     simp only[zX,simprocAttr,i64,bV,Goal.d_mk,iD,bD,d4,d1,d2,d3,d5,d6,d7,d8,d9]
     refine callWp_mono (hst _) (fun v s' hv=>?_)
     obtain⟨rfl,rfl⟩:=hv
     simp only[zX,simprocAttr,i64,bV,iD,bD,he,Bool.not_false,Bool.not_true,d4,d1,d2,d3,d5,d6,d7,d8,d9]
     simp only[zX,simprocAttr,i64,iD,bD,hk0,hl0,reV_eq kid,Re.cells_eq kid]
     refine call_give [4] (by simp [killO,kill1,frzV.go,frzV,frzD]) (callWp_mono (hf _) (fun v s' hv=>?_))
     obtain⟨rfl,rfl⟩:=hv
     simp only[zX,simprocAttr,i64,bV,iD,bD,foundV,e2]
     (refine callWp_mono (hc _) (fun v s' hv=>?_); obtain⟨rfl,rfl⟩:=hv)
     simp only[zX,simprocAttr,i64,bV,iD,bD]
     first | exact andAll _ _ | exact⟨andAll _ _,rfl⟩
theorem node_7 {t:List Int} {F:Int} {n:Nat} (ih:RunOK t F n) (ht:t.length≤1000000) {g0:Nat} {most:Int} {kind:Int} {re:Re} {k frm:Int} {next:Goal} {i:Int} {c:CapsL} {st s1 st':Sst} {b:Bool} (o:re.op=7)
  (hi0:0≤i) (hi1:i≤t.length) (hset:re.set.length≤1000000000) (hkids:re.kids.length≤1000000000) (hcl:c.length≤1000000000) (he:s1.empty=false) (hst:StepTo t F g0 most st s1)
  (hr:nodeR t (evR t F n) most re next i c s1=some (b,st')) :
  callWp prog 114 [.rf 0 g0 0 0,.d (Goal.mk kind re k frm next).d,i64 i,.d (capD c)] (srS g0 t most F st) fun v s=>v=bV b∧s=srS g0 t most F st':=by
 unfold StepTo srS srO at hst
 simp only[i64,bV,iD,List.cons_append,List.nil_append] at hst
 have d4:decide (re.op=4)=false:=decide_eq_false (by omega)
 have d1:decide (re.op=1)=false:=decide_eq_false (by omega)
 have d2:decide (re.op=2)=false:=decide_eq_false (by omega)
 have d3:decide (re.op=3)=false:=decide_eq_false (by omega)
 have d5:decide (re.op=5)=false:=decide_eq_false (by omega)
 have d6:decide (re.op=6)=false:=decide_eq_false (by omega)
 have d7:decide (re.op=7)=true:=decide_eq_true o
 unfold nodeR at hr
 rw[if_neg (by omega),if_neg (by omega),if_neg (by omega),if_neg (by omega),if_neg (by omega),if_pos (by omega)] at hr
 cases hk:re.kids with
 | nil=>rw[hk] at hr; cases hr
 | cons kid l =>
  rw[hk] at hr
  have hk0:re.kids[0]?=some kid:=by rw[hk]; rfl
  have hl0:(0:Int) < (re.kids.length:Int):=by rw[hk,List.length_cons]; omega
  simp only at hr
  cases hx:lookR (evR t F n) re.op kid i c s1 with
  | none=>rw[hx] at hr; cases hr
  | some x =>
   obtain⟨r1,s2⟩:=x
   rw[hx] at hr
   simp only at hr
   have hf:=fun ext=>look_ext (g0:=g0) (most:=most) ih hk hi0 (by omega) hx ext
   clear hk
   unfold srS srO at hf
   simp only[reV_eq re,i64,iD,bD,bV,List.cons_append,List.nil_append,he] at hf
   by_cases e2:s2.empty=true
   ·rw[if_pos e2] at hr
    simp only[Option.some.injEq,Prod.mk.injEq] at hr
    obtain⟨rfl,rfl⟩:=hr
    cases r1 with
    | none =>
     unfold srS srO
     refine fn_ok func114 rfl ntmps114 results114 rfl 3 26328072917139296674479506920917608079723773850137295405767982863 (by simp) (by simp) ?_
     simp only[zX,simprocAttr,i64,bV,Goal.d_mk,iD,bD,d4,d1,d2,d3,d5,d6,d7]
     refine callWp_mono (hst _) (fun v s' hv=>?_)
     obtain⟨rfl,rfl⟩:=hv
     simp only[zX,simprocAttr,i64,bV,iD,bD,he,Bool.not_false,Bool.not_true,d4,d1,d2,d3,d5,d6,d7]
     (refine callWp_mono (hf _) (fun v s' hv=>?_); obtain⟨rfl,rfl⟩:=hv)
     simp only[zX,simprocAttr,i64,bV,iD,bD,lookV,e2]
     first | exact andAll _ _ | exact⟨andAll _ _,rfl⟩
    | some d =>
     unfold srS srO
     refine fn_ok func114 rfl ntmps114 results114 rfl 3 26328072917139296674479506920917608079723773850137295405767982863 (by simp) (by simp) ?_
     simp only[zX,simprocAttr,i64,bV,Goal.d_mk,iD,bD,d4,d1,d2,d3,d5,d6,d7]
     refine callWp_mono (hst _) (fun v s' hv=>?_)
     obtain⟨rfl,rfl⟩:=hv
     simp only[zX,simprocAttr,i64,bV,iD,bD,he,Bool.not_false,Bool.not_true,d4,d1,d2,d3,d5,d6,d7]
     (refine callWp_mono (hf _) (fun v s' hv=>?_); obtain⟨rfl,rfl⟩:=hv)
     simp only[zX,simprocAttr,i64,bV,iD,bD,lookV,e2]
     first | exact andAll _ _ | exact⟨andAll _ _,rfl⟩
   ·rw[if_neg e2] at hr
    have e2:s2.empty=false:=by simpa using e2
    cases hn:re.neg with
    | true =>
     rw[if_pos hn] at hr
     cases r1 with
     | none =>
      simp only at hr
      have hc:=fun ext=>sr_ext (ih g0 _ _ _ _ _ hr) ext
      unfold taskF taskA srS srO at hc; simp only[Goal.d_mk,i64,iD,bD,bV,List.cons_append,List.nil_append] at hc
      simp only[e2] at hc
      unfold srS srO
      refine fn_ok func114 rfl ntmps114 results114 rfl 3 26328072917139296674479506920917608079723773850137295405767982863 (by simp) (by simp) ?_
      simp only[zX,simprocAttr,i64,bV,Goal.d_mk,iD,bD,d4,d1,d2,d3,d5,d6,d7]
      refine callWp_mono (hst _) (fun v s' hv=>?_)
      obtain⟨rfl,rfl⟩:=hv
      simp only[zX,simprocAttr,i64,bV,iD,bD,he,Bool.not_false,Bool.not_true,d4,d1,d2,d3,d5,d6,d7]
      (refine callWp_mono (hf _) (fun v s' hv=>?_); obtain⟨rfl,rfl⟩:=hv)
      simp only[zX,simprocAttr,i64,bV,iD,bD,lookV,e2,hn]
      (refine callWp_mono (hc _) (fun v s' hv=>?_); obtain⟨rfl,rfl⟩:=hv)
      simp only[zX,simprocAttr,i64,bV,iD,bD]
      first | exact andAll _ _ | exact⟨andAll _ _,rfl⟩
     | some d =>
      simp only[Option.some.injEq,Prod.mk.injEq] at hr
      obtain⟨rfl,rfl⟩:=hr
      unfold srS srO
      refine fn_ok func114 rfl ntmps114 results114 rfl 3 26328072917139296674479506920917608079723773850137295405767982863 (by simp) (by simp) ?_
      simp only[zX,simprocAttr,i64,bV,Goal.d_mk,iD,bD,d4,d1,d2,d3,d5,d6,d7]
      refine callWp_mono (hst _) (fun v s' hv=>?_)
      obtain⟨rfl,rfl⟩:=hv
      simp only[zX,simprocAttr,i64,bV,iD,bD,he,Bool.not_false,Bool.not_true,d4,d1,d2,d3,d5,d6,d7]
      (refine callWp_mono (hf _) (fun v s' hv=>?_); obtain⟨rfl,rfl⟩:=hv)
      simp only[zX,simprocAttr,i64,bV,iD,bD,lookV,e2,hn]
      first | exact andAll _ _ | exact⟨andAll _ _,rfl⟩
    | false =>
     rw[if_neg (by rw[hn]; decide)] at hr
     cases r1 with
     | none =>
      simp only[Option.some.injEq,Prod.mk.injEq] at hr
      obtain⟨rfl,rfl⟩:=hr
      unfold srS srO
      refine fn_ok func114 rfl ntmps114 results114 rfl 3 26328072917139296674479506920917608079723773850137295405767982863 (by simp) (by simp) ?_
      simp only[zX,simprocAttr,i64,bV,Goal.d_mk,iD,bD,d4,d1,d2,d3,d5,d6,d7]
      refine callWp_mono (hst _) (fun v s' hv=>?_)
      obtain⟨rfl,rfl⟩:=hv
      simp only[zX,simprocAttr,i64,bV,iD,bD,he,Bool.not_false,Bool.not_true,d4,d1,d2,d3,d5,d6,d7]
      (refine callWp_mono (hf _) (fun v s' hv=>?_); obtain⟨rfl,rfl⟩:=hv)
      simp only[zX,simprocAttr,i64,bV,iD,bD,lookV,e2,hn]
      first | exact andAll _ _ | exact⟨andAll _ _,rfl⟩
     | some d =>
      simp only at hr
      have hc:=fun ext=>sr_ext (ih g0 _ _ _ _ _ hr) ext
      unfold taskF taskA srS srO at hc; simp only[Goal.d_mk,i64,iD,bD,bV,List.cons_append,List.nil_append] at hc
      simp only[e2] at hc
      unfold srS srO
      refine fn_ok func114 rfl ntmps114 results114 rfl 3 26328072917139296674479506920917608079723773850137295405767982863 (by simp) (by simp) ?_
      simp only[zX,simprocAttr,i64,bV,Goal.d_mk,iD,bD,d4,d1,d2,d3,d5,d6,d7]
      refine callWp_mono (hst _) (fun v s' hv=>?_)
      obtain⟨rfl,rfl⟩:=hv
      simp only[zX,simprocAttr,i64,bV,iD,bD,he,Bool.not_false,Bool.not_true,d4,d1,d2,d3,d5,d6,d7]
      (refine callWp_mono (hf _) (fun v s' hv=>?_); obtain⟨rfl,rfl⟩:=hv)
      simp only[zX,simprocAttr,i64,bV,iD,bD,lookV,e2,hn]
      (refine callWp_mono (hc _) (fun v s' hv=>?_); obtain⟨rfl,rfl⟩:=hv)
      simp only[zX,simprocAttr,i64,bV,iD,bD]
      first | exact andAll _ _ | exact⟨andAll _ _,rfl⟩
theorem node_8 {t:List Int} {F:Int} {n:Nat} (ih:RunOK t F n) (ht:t.length≤1000000) {g0:Nat} {most:Int} {kind:Int} {re:Re} {k frm:Int} {next:Goal} {i:Int} {c:CapsL} {st s1 st':Sst} {b:Bool} (o:re.op=8)
  (hi0:0≤i) (hi1:i≤t.length) (hset:re.set.length≤1000000000) (hkids:re.kids.length≤1000000000) (hcl:c.length≤1000000000) (he:s1.empty=false) (hst:StepTo t F g0 most st s1)
  (hr:nodeR t (evR t F n) most re next i c s1=some (b,st')) :
  callWp prog 114 [.rf 0 g0 0 0,.d (Goal.mk kind re k frm next).d,i64 i,.d (capD c)] (srS g0 t most F st) fun v s=>v=bV b∧s=srS g0 t most F st':=by
 unfold StepTo srS srO at hst
 simp only[i64,bV,iD,List.cons_append,List.nil_append] at hst
 have d4:decide (re.op=4)=false:=decide_eq_false (by omega)
 have d1:decide (re.op=1)=false:=decide_eq_false (by omega)
 have d2:decide (re.op=2)=false:=decide_eq_false (by omega)
 have d3:decide (re.op=3)=false:=decide_eq_false (by omega)
 have d5:decide (re.op=5)=false:=decide_eq_false (by omega)
 have d6:decide (re.op=6)=false:=decide_eq_false (by omega)
 have d7:decide (re.op=7)=false:=decide_eq_false (by omega)
 have d8:decide (re.op=8)=true:=decide_eq_true o
 unfold nodeR at hr
 rw[if_neg (by omega),if_neg (by omega),if_neg (by omega),if_neg (by omega),if_neg (by omega),if_pos (by omega)] at hr
 cases hk:re.kids with
 | nil=>rw[hk] at hr; cases hr
 | cons kid l =>
  rw[hk] at hr
  have hk0:re.kids[0]?=some kid:=by rw[hk]; rfl
  have hl0:(0:Int) < (re.kids.length:Int):=by rw[hk,List.length_cons]; omega
  simp only at hr
  cases hx:lookR (evR t F n) re.op kid i c s1 with
  | none=>rw[hx] at hr; cases hr
  | some x =>
   obtain⟨r1,s2⟩:=x
   rw[hx] at hr
   simp only at hr
   have hf:=fun ext=>look_ext (g0:=g0) (most:=most) ih hk hi0 (by omega) hx ext
   clear hk
   unfold srS srO at hf
   simp only[reV_eq re,i64,iD,bD,bV,List.cons_append,List.nil_append,he] at hf
   by_cases e2:s2.empty=true
   ·rw[if_pos e2] at hr
    simp only[Option.some.injEq,Prod.mk.injEq] at hr
    obtain⟨rfl,rfl⟩:=hr
    cases r1 with
    | none =>
     unfold srS srO
     refine fn_ok func114 rfl ntmps114 results114 rfl 3 26328072917139296674479506920917608079723773850137295405767982863 (by simp) (by simp) ?_
     simp only[zX,simprocAttr,i64,bV,Goal.d_mk,iD,bD,d4,d1,d2,d3,d5,d6,d7,d8]
     refine callWp_mono (hst _) (fun v s' hv=>?_)
     obtain⟨rfl,rfl⟩:=hv
     simp only[zX,simprocAttr,i64,bV,iD,bD,he,Bool.not_false,Bool.not_true,d4,d1,d2,d3,d5,d6,d7,d8]
     (refine callWp_mono (hf _) (fun v s' hv=>?_); obtain⟨rfl,rfl⟩:=hv)
     simp only[zX,simprocAttr,i64,bV,iD,bD,lookV,e2]
     first | exact andAll _ _ | exact⟨andAll _ _,rfl⟩
    | some d =>
     unfold srS srO
     refine fn_ok func114 rfl ntmps114 results114 rfl 3 26328072917139296674479506920917608079723773850137295405767982863 (by simp) (by simp) ?_
     simp only[zX,simprocAttr,i64,bV,Goal.d_mk,iD,bD,d4,d1,d2,d3,d5,d6,d7,d8]
     refine callWp_mono (hst _) (fun v s' hv=>?_)
     obtain⟨rfl,rfl⟩:=hv
     simp only[zX,simprocAttr,i64,bV,iD,bD,he,Bool.not_false,Bool.not_true,d4,d1,d2,d3,d5,d6,d7,d8]
     (refine callWp_mono (hf _) (fun v s' hv=>?_); obtain⟨rfl,rfl⟩:=hv)
     simp only[zX,simprocAttr,i64,bV,iD,bD,lookV,e2]
     first | exact andAll _ _ | exact⟨andAll _ _,rfl⟩
   ·rw[if_neg e2] at hr
    have e2:s2.empty=false:=by simpa using e2
    cases hn:re.neg with
    | true =>
     rw[if_pos hn] at hr
     cases r1 with
     | none =>
      simp only at hr
      have hc:=fun ext=>sr_ext (ih g0 _ _ _ _ _ hr) ext
      unfold taskF taskA srS srO at hc; simp only[Goal.d_mk,i64,iD,bD,bV,List.cons_append,List.nil_append] at hc
      simp only[e2] at hc
      unfold srS srO
      refine fn_ok func114 rfl ntmps114 results114 rfl 3 26328072917139296674479506920917608079723773850137295405767982863 (by simp) (by simp) ?_
      simp only[zX,simprocAttr,i64,bV,Goal.d_mk,iD,bD,d4,d1,d2,d3,d5,d6,d7,d8]
      refine callWp_mono (hst _) (fun v s' hv=>?_)
      obtain⟨rfl,rfl⟩:=hv
      simp only[zX,simprocAttr,i64,bV,iD,bD,he,Bool.not_false,Bool.not_true,d4,d1,d2,d3,d5,d6,d7,d8]
      (refine callWp_mono (hf _) (fun v s' hv=>?_); obtain⟨rfl,rfl⟩:=hv)
      simp only[zX,simprocAttr,i64,bV,iD,bD,lookV,e2,hn]
      (refine callWp_mono (hc _) (fun v s' hv=>?_); obtain⟨rfl,rfl⟩:=hv)
      simp only[zX,simprocAttr,i64,bV,iD,bD]
      first | exact andAll _ _ | exact⟨andAll _ _,rfl⟩
     | some d =>
      simp only[Option.some.injEq,Prod.mk.injEq] at hr
      obtain⟨rfl,rfl⟩:=hr
      unfold srS srO
      refine fn_ok func114 rfl ntmps114 results114 rfl 3 26328072917139296674479506920917608079723773850137295405767982863 (by simp) (by simp) ?_
      simp only[zX,simprocAttr,i64,bV,Goal.d_mk,iD,bD,d4,d1,d2,d3,d5,d6,d7,d8]
      refine callWp_mono (hst _) (fun v s' hv=>?_)
      obtain⟨rfl,rfl⟩:=hv
      simp only[zX,simprocAttr,i64,bV,iD,bD,he,Bool.not_false,Bool.not_true,d4,d1,d2,d3,d5,d6,d7,d8]
      (refine callWp_mono (hf _) (fun v s' hv=>?_); obtain⟨rfl,rfl⟩:=hv)
      simp only[zX,simprocAttr,i64,bV,iD,bD,lookV,e2,hn]
      first | exact andAll _ _ | exact⟨andAll _ _,rfl⟩
    | false =>
     rw[if_neg (by rw[hn]; decide)] at hr
     cases r1 with
     | none =>
      simp only[Option.some.injEq,Prod.mk.injEq] at hr
      obtain⟨rfl,rfl⟩:=hr
      unfold srS srO
      refine fn_ok func114 rfl ntmps114 results114 rfl 3 26328072917139296674479506920917608079723773850137295405767982863 (by simp) (by simp) ?_
      simp only[zX,simprocAttr,i64,bV,Goal.d_mk,iD,bD,d4,d1,d2,d3,d5,d6,d7,d8]
      refine callWp_mono (hst _) (fun v s' hv=>?_)
      obtain⟨rfl,rfl⟩:=hv
      simp only[zX,simprocAttr,i64,bV,iD,bD,he,Bool.not_false,Bool.not_true,d4,d1,d2,d3,d5,d6,d7,d8]
      (refine callWp_mono (hf _) (fun v s' hv=>?_); obtain⟨rfl,rfl⟩:=hv)
      simp only[zX,simprocAttr,i64,bV,iD,bD,lookV,e2,hn]
      first | exact andAll _ _ | exact⟨andAll _ _,rfl⟩
     | some d =>
      simp only at hr
      have hc:=fun ext=>sr_ext (ih g0 _ _ _ _ _ hr) ext
      unfold taskF taskA srS srO at hc; simp only[Goal.d_mk,i64,iD,bD,bV,List.cons_append,List.nil_append] at hc
      simp only[e2] at hc
      unfold srS srO
      refine fn_ok func114 rfl ntmps114 results114 rfl 3 26328072917139296674479506920917608079723773850137295405767982863 (by simp) (by simp) ?_
      simp only[zX,simprocAttr,i64,bV,Goal.d_mk,iD,bD,d4,d1,d2,d3,d5,d6,d7,d8]
      refine callWp_mono (hst _) (fun v s' hv=>?_)
      obtain⟨rfl,rfl⟩:=hv
      simp only[zX,simprocAttr,i64,bV,iD,bD,he,Bool.not_false,Bool.not_true,d4,d1,d2,d3,d5,d6,d7,d8]
      (refine callWp_mono (hf _) (fun v s' hv=>?_); obtain⟨rfl,rfl⟩:=hv)
      simp only[zX,simprocAttr,i64,bV,iD,bD,lookV,e2,hn]
      (refine callWp_mono (hc _) (fun v s' hv=>?_); obtain⟨rfl,rfl⟩:=hv)
      simp only[zX,simprocAttr,i64,bV,iD,bD]
      first | exact andAll _ _ | exact⟨andAll _ _,rfl⟩
end Go.Proofs.Ytllagoeijcjpiaa
