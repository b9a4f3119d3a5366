/- A part of the proof (G8). -/
import Derived.Test.YtllagoeijcjpiaaSL7
set_option linter.unusedSimpArgs false
set_option linter.unusedVariables false
set_option maxRecDepth 100000
set_option maxHeartbeats 80000000
namespace Go.Proofs.Ytllagoeijcjpiaa
open Go.VL Go.Proofs.Try
theorem rep_poss {t:List Int} {F:Int} {n:Nat} (ih:RunOK t F n) {g0:Nat} {most:Int} {kind:Int} {re:Re} {k frm:Int} {next:Goal} {i:Int} {c:CapsL} {st st':Sst} {b:Bool} (hm:re.mode=2)
  (hr:repR F (evR t F n) most re k next i c st=some (b,st')) :
  callWp prog 112 [.rf 0 g0 0 0,.d (Goal.mk kind re k frm next).d,i64 i,.d (capD c)] (srS g0 t most F st) fun v s=>v=bV b∧s=srS g0 t most F st':=by
 unfold repR at hr
 rw[if_pos hm] at hr
 cases hx:firstR (evR t F n) (.mk 1 (re.setMode 0) 0 0 .nil) i c st with
 | none=>rw[hx] at hr; cases hr
 | some x =>
  obtain⟨r,s1⟩:=x
  rw[hx] at hr
  have hf:=fun ext=>first_ext (g0:=g0) (most:=most) ih hx ext
  have hnil:Goal.nil.d=.sc (.pointer none):=rfl
  have e1:(re.setMode 0).op=re.op∧(re.setMode 0).set=re.set∧(re.setMode 0).kids=re.kids∧(re.setMode 0).mn=re.mn∧(re.setMode 0).mx=re.mx∧(re.setMode 0).mode=0∧(re.setMode 0).n=re.n∧(re.setMode 0).neg=re.neg:=⟨rfl,rfl,rfl,rfl,rfl,rfl,rfl,rfl⟩
  obtain⟨a1,a2,a3,a4,a5,a6,a7,a8⟩:=e1
  unfold srS srO at hf
  simp only[Goal.d_mk,hnil,a1,a2,a3,a4,a5,a6,a7,a8,i64,iD,bD,bV,List.cons_append,List.nil_append] at hf
  cases r with
  | none =>
   simp only[Option.some.injEq,Prod.mk.injEq] at hr
   obtain⟨rfl,rfl⟩:=hr
   unfold srS srO
   refine fn_ok func112 rfl ntmps112 results112 rfl 3 32527 (by simp) (by simp) ?_
   simp only[zX,simprocAttr,i64,bV,Goal.d_mk,iD,bD,hm]
   refine call_give [4] (by simp [killO,kill1,frzV.go,frzV,frzD]) (callWp_mono (hf _) (fun v s' hv=>?_))
   obtain⟨rfl,rfl⟩:=hv
   simp only[zX,simprocAttr,i64,bV,iD,bD,foundV]
   exact andAll _ _
  | some p =>
   obtain⟨e,d⟩:=p
   simp only at hr
   have hc:=fun ext=>sr_ext (ih g0 _ _ _ _ _ hr) ext
   unfold taskF taskA srS srO at hc; simp only[Goal.d_mk,i64,iD,bD,bV,List.cons_append,List.nil_append] at hc
   unfold srS srO
   refine fn_ok func112 rfl ntmps112 results112 rfl 3 32527 (by simp) (by simp) ?_
   simp only[zX,simprocAttr,i64,bV,Goal.d_mk,iD,bD,hm]
   refine call_give [4] (by simp [killO,kill1,frzV.go,frzV,frzD]) (callWp_mono (hf _) (fun v s' hv=>?_))
   obtain⟨rfl,rfl⟩:=hv
   simp only[zX,simprocAttr,i64,bV,iD,bD,foundV]
   refine callWp_mono (hc _) (fun v s' hv=>?_)
   obtain⟨rfl,rfl⟩:=hv
   simp only[zX,simprocAttr,i64,bV,iD,bD]
   exact andAll _ _
theorem rep_step {t:List Int} {F:Int} {n:Nat} (ih:RunOK t F n) {g0:Nat} {most:Int} {kind:Int} {re:Re} {k frm:Int} {next:Goal} {i:Int} {c:CapsL} {st st':Sst} {b:Bool} (hm:¬re.mode=2)
  (hr:repR F (evR t F n) most re k next i c st=some (b,st')) :
  callWp prog 112 [.rf 0 g0 0 0,.d (Goal.mk kind re k frm next).d,i64 i,.d (capD c)] (srS g0 t most F st) fun v s=>v=bV b∧s=srS g0 t most F st':=by
 unfold repR at hr
 rw[if_neg hm] at hr
 by_cases c1:st.steps < 0∨10000000000000 < st.steps
 ·rw[if_pos c1] at hr; cases hr
 rw[if_neg c1] at hr
 have hst:=fun ext=>step_ext g0 t most F st (by omega) (by omega) ext
 generalize st.step F=s1 at *
 unfold srS srO at hst
 simp only[i64,bV,iD,List.cons_append,List.nil_append] at hst
 simp only at hr
 by_cases he:s1.empty=true
 ·rw[if_pos he] at hr
  simp only[Option.some.injEq,Prod.mk.injEq] at hr
  obtain⟨rfl,rfl⟩:=hr
  unfold srS srO
  refine fn_ok func112 rfl ntmps112 results112 rfl 3 32527 (by simp) (by simp) ?_
  simp only[zX,simprocAttr,i64,bV,Goal.d_mk,iD,bD,hm]
  refine callWp_mono (hst _) (fun v s' hv=>?_)
  obtain⟨rfl,rfl⟩:=hv
  simp only[zX,simprocAttr,i64,bV,iD,bD,he,Bool.not_false,Bool.not_true]
  exact andAll _ _
 have he:s1.empty=false:=by simpa using he
 rw[he] at hr
 simp only[Bool.false_eq_true,if_false] at hr
 cases hk:re.kids with
 | nil=>rw[hk] at hr; cases hr
 | cons kid l =>
  rw[hk] at hr
  have hk0:re.kids[0]?=some kid:=by rw[hk]; rfl
  have hl0:(0:Int) < (re.kids.length:Int):=by rw[hk,List.length_cons]; omega
  clear hk
  simp only at hr
  by_cases c2:k < re.mn
  ·rw[if_pos c2] at hr
   have hc:=fun ext=>sr_ext (ih g0 _ _ _ _ _ hr) ext
   unfold taskF taskA srS srO at hc; simp only[Goal.d_mk,i64,iD,bD,bV,List.cons_append,List.nil_append] at hc
   simp only[he] at hc
   by_cases hM:re.mx=-1∨k < re.mx
   ·
    by_cases m1:re.mx=-1
    ·have d1:decide (re.mx=-1)=true:=decide_eq_true m1
     unfold srS srO
     refine fn_ok func112 rfl ntmps112 results112 rfl 3 32527 (by simp) (by simp) ?_
     simp only[zX,simprocAttr,i64,bV,Goal.d_mk,iD,bD,hm]
     refine callWp_mono (hst _) (fun v s' hv=>?_)
     obtain⟨rfl,rfl⟩:=hv
     simp only[zX,simprocAttr,i64,bV,iD,bD,he,Bool.not_false,Bool.not_true]
     refine draw_c mix [] [] (by rfl) ?_
     simp only[zX,simprocAttr,i64,bV,iD,bD,d1]
     refine draw_first (Cln0.trans Cln0.reserve Cln0.reserve) ?_
     refine draw_c mix [] [(15,[4],[4]),(17,[5],[5])] (by rfl) ?_
     simp only[zX,simprocAttr,i64,bV,iD,bD,hole,hk0,hl0,reV_eq kid,Re.cells_eq kid]
     refine draw_c mix [] [] (by rfl) ?_
     simp only[zX,simprocAttr,i64,bV,iD,bD,c2,c2]
     refine call_give [4,5] (by simp [killO,kill1,frzV.go,frzV,frzD]) (callWp_mono (hc _) (fun v s' hv=>?_))
     obtain⟨rfl,rfl⟩:=hv
     simp only[zX,simprocAttr,i64,bV,iD,bD]
     exact andAll _ _
    ·have d1:decide (re.mx=-1)=false:=decide_eq_false m1
     have m2:k < re.mx:=hM.resolve_left m1
     unfold srS srO
     refine fn_ok func112 rfl ntmps112 results112 rfl 3 32527 (by simp) (by simp) ?_
     simp only[zX,simprocAttr,i64,bV,Goal.d_mk,iD,bD,hm]
     refine callWp_mono (hst _) (fun v s' hv=>?_)
     obtain⟨rfl,rfl⟩:=hv
     simp only[zX,simprocAttr,i64,bV,iD,bD,he,Bool.not_false,Bool.not_true]
     refine draw_c mix [] [] (by rfl) ?_
     simp only[zX,simprocAttr,i64,bV,iD,bD,d1,m2]
     refine draw_first (Cln0.trans Cln0.reserve Cln0.reserve) ?_
     refine draw_c mix [] [(15,[4],[4]),(17,[5],[5])] (by rfl) ?_
     simp only[zX,simprocAttr,i64,bV,iD,bD,hole,hk0,hl0,reV_eq kid,Re.cells_eq kid]
     refine draw_c mix [] [] (by rfl) ?_
     simp only[zX,simprocAttr,i64,bV,iD,bD,c2,c2]
     refine call_give [4,5] (by simp [killO,kill1,frzV.go,frzV,frzD]) (callWp_mono (hc _) (fun v s' hv=>?_))
     obtain⟨rfl,rfl⟩:=hv
     simp only[zX,simprocAttr,i64,bV,iD,bD]
     exact andAll _ _
   ·
    have d1:decide (re.mx=-1)=false:=decide_eq_false (fun h=>hM (.inl h))
    have m2:¬k < re.mx:=fun h=>hM (.inr h)
    unfold srS srO
    refine fn_ok func112 rfl ntmps112 results112 rfl 3 32527 (by simp) (by simp) ?_
    simp only[zX,simprocAttr,i64,bV,Goal.d_mk,iD,bD,hm]
    refine callWp_mono (hst _) (fun v s' hv=>?_)
    obtain⟨rfl,rfl⟩:=hv
    simp only[zX,simprocAttr,i64,bV,iD,bD,he,Bool.not_false,Bool.not_true]
    refine draw_c mix [] [] (by rfl) ?_
    simp only[zX,simprocAttr,i64,bV,iD,bD,d1,m2]
    refine draw_first (Cln0.trans Cln0.reserve Cln0.reserve) ?_
    refine draw_c mix [] [(15,[4],[4]),(17,[5],[5])] (by rfl) ?_
    simp only[zX,simprocAttr,i64,bV,iD,bD,hole,hk0,hl0,reV_eq kid,Re.cells_eq kid]
    refine draw_c mix [] [] (by rfl) ?_
    simp only[zX,simprocAttr,i64,bV,iD,bD,c2,c2]
    refine call_give [4,5] (by simp [killO,kill1,frzV.go,frzV,frzD]) (callWp_mono (hc _) (fun v s' hv=>?_))
    obtain⟨rfl,rfl⟩:=hv
    simp only[zX,simprocAttr,i64,bV,iD,bD]
    exact andAll _ _
  rw[if_neg c2] at hr
  by_cases m3:re.mode=1
  ·have d3:decide (re.mode=1)=true:=decide_eq_true m3
   rw[if_pos m3] at hr
   cases hx:evR t F n most (.run next i c) s1 with
   | none=>rw[hx] at hr; cases hr
   | some x =>
    obtain⟨b1,s2⟩:=x
    rw[hx] at hr
    have h1:=fun ext=>sr_ext (ih g0 _ _ _ _ _ hx) ext
    unfold taskF taskA srS srO at h1; simp only[Goal.d_mk,i64,iD,bD,bV,List.cons_append,List.nil_append] at h1
    simp only[he] at h1
    by_cases hM:re.mx=-1∨k < re.mx
    ·simp only[if_pos hM] at hr
     cases b1 with
     | true =>
      simp only[orR,Option.some.injEq,Prod.mk.injEq] at hr
      obtain⟨rfl,rfl⟩:=hr
      by_cases m1:re.mx=-1
      ·have d1:decide (re.mx=-1)=true:=decide_eq_true m1
       unfold srS srO
       refine fn_ok func112 rfl ntmps112 results112 rfl 3 32527 (by simp) (by simp) ?_
       simp only[zX,simprocAttr,i64,bV,Goal.d_mk,iD,bD,hm]
       refine callWp_mono (hst _) (fun v s' hv=>?_)
       obtain⟨rfl,rfl⟩:=hv
       simp only[zX,simprocAttr,i64,bV,iD,bD,he,Bool.not_false,Bool.not_true]
       refine draw_c mix [] [] (by rfl) ?_
       simp only[zX,simprocAttr,i64,bV,iD,bD,d1]
       refine draw_first (Cln0.trans Cln0.reserve Cln0.reserve) ?_
       refine draw_c mix [] [(15,[4],[4]),(17,[5],[5])] (by rfl) ?_
       simp only[zX,simprocAttr,i64,bV,iD,bD,hole,hk0,hl0,reV_eq kid,Re.cells_eq kid]
       refine draw_c mix [] [] (by rfl) ?_
       simp only[zX,simprocAttr,i64,bV,iD,bD,c2,d3]
       refine callWp_mono (h1 _) (fun v s' hv=>?_)
       obtain⟨rfl,rfl⟩:=hv
       simp only[zX,simprocAttr,i64,bV,iD,bD]
       exact andAll _ _
      ·have d1:decide (re.mx=-1)=false:=decide_eq_false m1
       have m2:k < re.mx:=hM.resolve_left m1
       unfold srS srO
       refine fn_ok func112 rfl ntmps112 results112 rfl 3 32527 (by simp) (by simp) ?_
       simp only[zX,simprocAttr,i64,bV,Goal.d_mk,iD,bD,hm]
       refine callWp_mono (hst _) (fun v s' hv=>?_)
       obtain⟨rfl,rfl⟩:=hv
       simp only[zX,simprocAttr,i64,bV,iD,bD,he,Bool.not_false,Bool.not_true]
       refine draw_c mix [] [] (by rfl) ?_
       simp only[zX,simprocAttr,i64,bV,iD,bD,d1,m2]
       refine draw_first (Cln0.trans Cln0.reserve Cln0.reserve) ?_
       refine draw_c mix [] [(15,[4],[4]),(17,[5],[5])] (by rfl) ?_
       simp only[zX,simprocAttr,i64,bV,iD,bD,hole,hk0,hl0,reV_eq kid,Re.cells_eq kid]
       refine draw_c mix [] [] (by rfl) ?_
       simp only[zX,simprocAttr,i64,bV,iD,bD,c2,d3]
       refine callWp_mono (h1 _) (fun v s' hv=>?_)
       obtain⟨rfl,rfl⟩:=hv
       simp only[zX,simprocAttr,i64,bV,iD,bD]
       exact andAll _ _
     | false =>
      simp only[orR] at hr
      have hc:=fun ext=>sr_ext (ih g0 _ _ _ _ _ hr) ext
      unfold taskF taskA srS srO at hc; simp only[Goal.d_mk,i64,iD,bD,bV,List.cons_append,List.nil_append] at hc
      by_cases m1:re.mx=-1
      ·have d1:decide (re.mx=-1)=true:=decide_eq_true m1
       unfold srS srO
       refine fn_ok func112 rfl ntmps112 results112 rfl 3 32527 (by simp) (by simp) ?_
       simp only[zX,simprocAttr,i64,bV,Goal.d_mk,iD,bD,hm]
       refine callWp_mono (hst _) (fun v s' hv=>?_)
       obtain⟨rfl,rfl⟩:=hv
       simp only[zX,simprocAttr,i64,bV,iD,bD,he,Bool.not_false,Bool.not_true]
       refine draw_c mix [] [] (by rfl) ?_
       simp only[zX,simprocAttr,i64,bV,iD,bD,d1]
       refine draw_first (Cln0.trans Cln0.reserve Cln0.reserve) ?_
       refine draw_c mix [] [(15,[4],[4]),(17,[5],[5])] (by rfl) ?_
       simp only[zX,simprocAttr,i64,bV,iD,bD,hole,hk0,hl0,reV_eq kid,Re.cells_eq kid]
       refine draw_c mix [] [] (by rfl) ?_
       simp only[zX,simprocAttr,i64,bV,iD,bD,c2,d3]
       refine callWp_mono (h1 _) (fun v s' hv=>?_)
       obtain⟨rfl,rfl⟩:=hv
       simp only[zX,simprocAttr,i64,bV,iD,bD]
       refine call_give [4,5] (by simp [killO,kill1,frzV.go,frzV,frzD]) (callWp_mono (hc _) (fun v s' hv=>?_))
       obtain⟨rfl,rfl⟩:=hv
       simp only[zX,simprocAttr,i64,bV,iD,bD]
       exact andAll _ _
      ·have d1:decide (re.mx=-1)=false:=decide_eq_false m1
       have m2:k < re.mx:=hM.resolve_left m1
       unfold srS srO
       refine fn_ok func112 rfl ntmps112 results112 rfl 3 32527 (by simp) (by simp) ?_
       simp only[zX,simprocAttr,i64,bV,Goal.d_mk,iD,bD,hm]
       refine callWp_mono (hst _) (fun v s' hv=>?_)
       obtain⟨rfl,rfl⟩:=hv
       simp only[zX,simprocAttr,i64,bV,iD,bD,he,Bool.not_false,Bool.not_true]
       refine draw_c mix [] [] (by rfl) ?_
       simp only[zX,simprocAttr,i64,bV,iD,bD,d1,m2]
       refine draw_first (Cln0.trans Cln0.reserve Cln0.reserve) ?_
       refine draw_c mix [] [(15,[4],[4]),(17,[5],[5])] (by rfl) ?_
       simp only[zX,simprocAttr,i64,bV,iD,bD,hole,hk0,hl0,reV_eq kid,Re.cells_eq kid]
       refine draw_c mix [] [] (by rfl) ?_
       simp only[zX,simprocAttr,i64,bV,iD,bD,c2,d3]
       refine callWp_mono (h1 _) (fun v s' hv=>?_)
       obtain⟨rfl,rfl⟩:=hv
       simp only[zX,simprocAttr,i64,bV,iD,bD]
       refine call_give [4,5] (by simp [killO,kill1,frzV.go,frzV,frzD]) (callWp_mono (hc _) (fun v s' hv=>?_))
       obtain⟨rfl,rfl⟩:=hv
       simp only[zX,simprocAttr,i64,bV,iD,bD]
       exact andAll _ _
    ·simp only[if_neg hM] at hr
     cases b1 with
     | true =>
      simp only[orR,Option.some.injEq,Prod.mk.injEq] at hr
      obtain⟨rfl,rfl⟩:=hr
      have d1:decide (re.mx=-1)=false:=decide_eq_false (fun h=>hM (.inl h))
      have m2:¬k < re.mx:=fun h=>hM (.inr h)
      unfold srS srO
      refine fn_ok func112 rfl ntmps112 results112 rfl 3 32527 (by simp) (by simp) ?_
      simp only[zX,simprocAttr,i64,bV,Goal.d_mk,iD,bD,hm]
      refine callWp_mono (hst _) (fun v s' hv=>?_)
      obtain⟨rfl,rfl⟩:=hv
      simp only[zX,simprocAttr,i64,bV,iD,bD,he,Bool.not_false,Bool.not_true]
      refine draw_c mix [] [] (by rfl) ?_
      simp only[zX,simprocAttr,i64,bV,iD,bD,d1,m2]
      refine draw_first (Cln0.trans Cln0.reserve Cln0.reserve) ?_
      refine draw_c mix [] [(15,[4],[4]),(17,[5],[5])] (by rfl) ?_
      simp only[zX,simprocAttr,i64,bV,iD,bD,hole,hk0,hl0,reV_eq kid,Re.cells_eq kid]
      refine draw_c mix [] [] (by rfl) ?_
      simp only[zX,simprocAttr,i64,bV,iD,bD,c2,d3]
      refine callWp_mono (h1 _) (fun v s' hv=>?_)
      obtain⟨rfl,rfl⟩:=hv
      simp only[zX,simprocAttr,i64,bV,iD,bD]
      exact andAll _ _
     | false =>
      simp only[orR,Option.some.injEq,Prod.mk.injEq] at hr
      obtain⟨rfl,rfl⟩:=hr
      have d1:decide (re.mx=-1)=false:=decide_eq_false (fun h=>hM (.inl h))
      have m2:¬k < re.mx:=fun h=>hM (.inr h)
      unfold srS srO
      refine fn_ok func112 rfl ntmps112 results112 rfl 3 32527 (by simp) (by simp) ?_
      simp only[zX,simprocAttr,i64,bV,Goal.d_mk,iD,bD,hm]
      refine callWp_mono (hst _) (fun v s' hv=>?_)
      obtain⟨rfl,rfl⟩:=hv
      simp only[zX,simprocAttr,i64,bV,iD,bD,he,Bool.not_false,Bool.not_true]
      refine draw_c mix [] [] (by rfl) ?_
      simp only[zX,simprocAttr,i64,bV,iD,bD,d1,m2]
      refine draw_first (Cln0.trans Cln0.reserve Cln0.reserve) ?_
      refine draw_c mix [] [(15,[4],[4]),(17,[5],[5])] (by rfl) ?_
      simp only[zX,simprocAttr,i64,bV,iD,bD,hole,hk0,hl0,reV_eq kid,Re.cells_eq kid]
      refine draw_c mix [] [] (by rfl) ?_
      simp only[zX,simprocAttr,i64,bV,iD,bD,c2,d3]
      refine callWp_mono (h1 _) (fun v s' hv=>?_)
      obtain⟨rfl,rfl⟩:=hv
      simp only[zX,simprocAttr,i64,bV,iD,bD]
      exact andAll _ _
  ·have d3:decide (re.mode=1)=false:=decide_eq_false m3
   rw[if_neg m3] at hr
   by_cases hM:re.mx=-1∨k < re.mx
   ·simp only[if_pos hM] at hr
    cases hx:evR t F n most (.run (.mk 0 kid 0 0 (.mk 2 re k i next)) i c) s1 with
    | none=>rw[hx] at hr; cases hr
    | some x =>
     obtain⟨b1,s2⟩:=x
     rw[hx] at hr
     have h1:=fun ext=>sr_ext (ih g0 _ _ _ _ _ hx) ext
     unfold taskF taskA srS srO at h1; simp only[Goal.d_mk,i64,iD,bD,bV,List.cons_append,List.nil_append] at h1
     simp only[he] at h1
     cases b1 with
     | true =>
      simp only[orR,Option.some.injEq,Prod.mk.injEq] at hr
      obtain⟨rfl,rfl⟩:=hr
      by_cases m1:re.mx=-1
      ·have d1:decide (re.mx=-1)=true:=decide_eq_true m1
       unfold srS srO
       refine fn_ok func112 rfl ntmps112 results112 rfl 3 32527 (by simp) (by simp) ?_
       simp only[zX,simprocAttr,i64,bV,Goal.d_mk,iD,bD,hm]
       refine callWp_mono (hst _) (fun v s' hv=>?_)
       obtain⟨rfl,rfl⟩:=hv
       simp only[zX,simprocAttr,i64,bV,iD,bD,he,Bool.not_false,Bool.not_true]
       refine draw_c mix [] [] (by rfl) ?_
       simp only[zX,simprocAttr,i64,bV,iD,bD,d1]
       refine draw_first (Cln0.trans Cln0.reserve Cln0.reserve) ?_
       refine draw_c mix [] [(15,[4],[4]),(17,[5],[5])] (by rfl) ?_
       simp only[zX,simprocAttr,i64,bV,iD,bD,hole,hk0,hl0,reV_eq kid,Re.cells_eq kid]
       refine draw_c mix [] [] (by rfl) ?_
       simp only[zX,simprocAttr,i64,bV,iD,bD,c2,d3]
       refine call_give [4,5] (by simp [killO,kill1,frzV.go,frzV,frzD]) (callWp_mono (h1 _) (fun v s' hv=>?_))
       obtain⟨rfl,rfl⟩:=hv
       simp only[zX,simprocAttr,i64,bV,iD,bD]
       exact andAll _ _
      ·have d1:decide (re.mx=-1)=false:=decide_eq_false m1
       have m2:k < re.mx:=hM.resolve_left m1
       unfold srS srO
       refine fn_ok func112 rfl ntmps112 results112 rfl 3 32527 (by simp) (by simp) ?_
       simp only[zX,simprocAttr,i64,bV,Goal.d_mk,iD,bD,hm]
       refine callWp_mono (hst _) (fun v s' hv=>?_)
       obtain⟨rfl,rfl⟩:=hv
       simp only[zX,simprocAttr,i64,bV,iD,bD,he,Bool.not_false,Bool.not_true]
       refine draw_c mix [] [] (by rfl) ?_
       simp only[zX,simprocAttr,i64,bV,iD,bD,d1,m2]
       refine draw_first (Cln0.trans Cln0.reserve Cln0.reserve) ?_
       refine draw_c mix [] [(15,[4],[4]),(17,[5],[5])] (by rfl) ?_
       simp only[zX,simprocAttr,i64,bV,iD,bD,hole,hk0,hl0,reV_eq kid,Re.cells_eq kid]
       refine draw_c mix [] [] (by rfl) ?_
       simp only[zX,simprocAttr,i64,bV,iD,bD,c2,d3]
       refine call_give [4,5] (by simp [killO,kill1,frzV.go,frzV,frzD]) (callWp_mono (h1 _) (fun v s' hv=>?_))
       obtain⟨rfl,rfl⟩:=hv
       simp only[zX,simprocAttr,i64,bV,iD,bD]
       exact andAll _ _
     | false =>
      simp only[orR] at hr
      have hc:=fun ext=>sr_ext (ih g0 _ _ _ _ _ hr) ext
      unfold taskF taskA srS srO at hc; simp only[Goal.d_mk,i64,iD,bD,bV,List.cons_append,List.nil_append] at hc
      by_cases m1:re.mx=-1
      ·have d1:decide (re.mx=-1)=true:=decide_eq_true m1
       unfold srS srO
       refine fn_ok func112 rfl ntmps112 results112 rfl 3 32527 (by simp) (by simp) ?_
       simp only[zX,simprocAttr,i64,bV,Goal.d_mk,iD,bD,hm]
       refine callWp_mono (hst _) (fun v s' hv=>?_)
       obtain⟨rfl,rfl⟩:=hv
       simp only[zX,simprocAttr,i64,bV,iD,bD,he,Bool.not_false,Bool.not_true]
       refine draw_c mix [] [] (by rfl) ?_
       simp only[zX,simprocAttr,i64,bV,iD,bD,d1]
       refine draw_first (Cln0.trans Cln0.reserve Cln0.reserve) ?_
       refine draw_c mix [] [(15,[4],[4]),(17,[5],[5])] (by rfl) ?_
       simp only[zX,simprocAttr,i64,bV,iD,bD,hole,hk0,hl0,reV_eq kid,Re.cells_eq kid]
       refine draw_c mix [] [] (by rfl) ?_
       simp only[zX,simprocAttr,i64,bV,iD,bD,c2,d3]
       refine call_give [4,5] (by simp [killO,kill1,frzV.go,frzV,frzD]) (callWp_mono (h1 _) (fun v s' hv=>?_))
       obtain⟨rfl,rfl⟩:=hv
       simp only[zX,simprocAttr,i64,bV,iD,bD]
       refine callWp_mono (hc _) (fun v s' hv=>?_)
       obtain⟨rfl,rfl⟩:=hv
       simp only[zX,simprocAttr,i64,bV,iD,bD]
       exact andAll _ _
      ·have d1:decide (re.mx=-1)=false:=decide_eq_false m1
       have m2:k < re.mx:=hM.resolve_left m1
       unfold srS srO
       refine fn_ok func112 rfl ntmps112 results112 rfl 3 32527 (by simp) (by simp) ?_
       simp only[zX,simprocAttr,i64,bV,Goal.d_mk,iD,bD,hm]
       refine callWp_mono (hst _) (fun v s' hv=>?_)
       obtain⟨rfl,rfl⟩:=hv
       simp only[zX,simprocAttr,i64,bV,iD,bD,he,Bool.not_false,Bool.not_true]
       refine draw_c mix [] [] (by rfl) ?_
       simp only[zX,simprocAttr,i64,bV,iD,bD,d1,m2]
       refine draw_first (Cln0.trans Cln0.reserve Cln0.reserve) ?_
       refine draw_c mix [] [(15,[4],[4]),(17,[5],[5])] (by rfl) ?_
       simp only[zX,simprocAttr,i64,bV,iD,bD,hole,hk0,hl0,reV_eq kid,Re.cells_eq kid]
       refine draw_c mix [] [] (by rfl) ?_
       simp only[zX,simprocAttr,i64,bV,iD,bD,c2,d3]
       refine call_give [4,5] (by simp [killO,kill1,frzV.go,frzV,frzD]) (callWp_mono (h1 _) (fun v s' hv=>?_))
       obtain⟨rfl,rfl⟩:=hv
       simp only[zX,simprocAttr,i64,bV,iD,bD]
       refine callWp_mono (hc _) (fun v s' hv=>?_)
       obtain⟨rfl,rfl⟩:=hv
       simp only[zX,simprocAttr,i64,bV,iD,bD]
       exact andAll _ _
   ·simp only[if_neg hM,orR] at hr
    have hc:=fun ext=>sr_ext (ih g0 _ _ _ _ _ hr) ext
    unfold taskF taskA srS srO at hc; simp only[Goal.d_mk,i64,iD,bD,bV,List.cons_append,List.nil_append] at hc
    simp only[he] at hc
    have d1:decide (re.mx=-1)=false:=decide_eq_false (fun h=>hM (.inl h))
    have m2:¬k < re.mx:=fun h=>hM (.inr h)
    unfold srS srO
    refine fn_ok func112 rfl ntmps112 results112 rfl 3 32527 (by simp) (by simp) ?_
    simp only[zX,simprocAttr,i64,bV,Goal.d_mk,iD,bD,hm]
    refine callWp_mono (hst _) (fun v s' hv=>?_)
    obtain⟨rfl,rfl⟩:=hv
    simp only[zX,simprocAttr,i64,bV,iD,bD,he,Bool.not_false,Bool.not_true]
    refine draw_c mix [] [] (by rfl) ?_
    simp only[zX,simprocAttr,i64,bV,iD,bD,d1,m2]
    refine draw_first (Cln0.trans Cln0.reserve Cln0.reserve) ?_
    refine draw_c mix [] [(15,[4],[4]),(17,[5],[5])] (by rfl) ?_
    simp only[zX,simprocAttr,i64,bV,iD,bD,hole,hk0,hl0,reV_eq kid,Re.cells_eq kid]
    refine draw_c mix [] [] (by rfl) ?_
    simp only[zX,simprocAttr,i64,bV,iD,bD,c2,d3]
    refine callWp_mono (hc _) (fun v s' hv=>?_)
    obtain⟨rfl,rfl⟩:=hv
    simp only[zX,simprocAttr,i64,bV,iD,bD]
    exact andAll _ _
end Go.Proofs.Ytllagoeijcjpiaa
