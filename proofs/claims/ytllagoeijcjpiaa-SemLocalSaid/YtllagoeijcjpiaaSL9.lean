/- A part of the proof (G9 G10). -/
import Derived.Test.YtllagoeijcjpiaaSL7
set_option linter.unusedSimpArgs false
set_option linter.unusedVariables false
set_option maxRecDepth 100000
set_option maxHeartbeats 80000000
namespace Go.Proofs.Ytllagoeijcjpiaa
open Go.VL Go.Proofs.Try
def lookV:Option CapsL→V
 | none=>.tu [.d (.sl []),bV false]
 | some d=>.tu [.d (capD d),bV true]
theorem ren_look (r:Option CapsL):renV [0,1,2] (lookV r)=lookV r:=by cases r <;> rfl
theorem look_ok {t:List Int} {F:Int} {n:Nat} (ih:RunOK t F n) {g0:Nat} {most:Int} {re kid:Re} {l:List Re} (hk:re.kids=kid::l) {i:Int} (hi0:0≤i) (hi1:i≤1000000) {c:CapsL} {st st':Sst} {r:Option CapsL}
  (hr:lookR (evR t F n) re.op kid i c st=some (r,st')) :
  callWp prog 149 [.rf 0 g0 0 0,reV re,i64 i,.d (capD c)] (srS g0 t most F st) fun v s=>v=lookV r∧s=srS g0 t most F st':=by
 have hk0:re.kids[0]?=some kid:=by rw[hk]; rfl
 have hl0:(0:Int) < (re.kids.length:Int):=by rw[hk,List.length_cons]; omega
 clear hk
 have hnil:Goal.nil.d=.sc (.pointer none):=rfl
 unfold lookR at hr
 by_cases o7:re.op=7
 ·have d7:decide (re.op=7)=true:=decide_eq_true o7
  rw[if_pos o7] at hr
  cases hx:firstR (evR t F n) (.mk 0 kid 0 0 .nil) i c st with
  | none=>rw[hx] at hr; cases hr
  | some x =>
   obtain⟨r1,s1⟩:=x
   rw[hx] at hr
   simp only[Option.some.injEq,Prod.mk.injEq] at hr
   obtain⟨rfl,rfl⟩:=hr
   have hf:=fun ext=>first_ext (g0:=g0) (most:=most) ih hx ext
   unfold srS srO at hf
   simp only[Goal.d_mk,hnil,i64,iD,bD,bV,List.cons_append,List.nil_append] at hf
   unfold srS srO
   refine fn_ok func149 rfl ntmps149 results149 rfl 3 227119 (by simp) (by simp) ?_
   simp only[zX,simprocAttr,i64,bV,reV_eq re,reV_eq kid,Re.cells_eq kid,iD,bD,hk0,hl0,d7]
   refine call_give [4] (by simp [killO,kill1,frzV.go,frzV,frzD]) (callWp_mono (hf _) (fun v s' hv=>?_))
   obtain⟨rfl,rfl⟩:=hv
   cases r1 with
   | none =>
    simp only[zX,simprocAttr,i64,bV,iD,bD,foundV]
    exact⟨andAll _ _,rfl⟩
   | some p =>
    obtain⟨e,d⟩:=p
    simp only[zX,simprocAttr,i64,bV,iD,bD,foundV]
    exact⟨andAll _ _,rfl⟩
 ·have d7:decide (re.op=7)=false:=decide_eq_false o7
  rw[if_neg o7] at hr
  have hgd:(Goal.mk 0 kid 0 0 (.mk 4 (.mk 0 [] [] 0 0 0 0 false) 0 i .nil)).d=.el [iD 0,iD kid.op,.sl (kid.set.map spanC),.sl (kid.kids.map Re.cells),iD kid.mn,iD kid.mx,iD kid.mode,iD kid.n,bD kid.neg,iD 0,iD 0,
    .el [iD 4,iD 0,.sl [],.sl [],iD 0,iD 0,iD 0,iD 0,bD false,iD 0,iD i,.sc (.pointer none)]]:=by
   rw[Goal.d_mk,Goal.d_mk]; rfl
  unfold srS srO
  refine fn_ok func149 rfl ntmps149 results149 rfl 3 227119 (by simp) (by simp) ?_
  simp only[zX,simprocAttr,i64,bV,reV_eq re,reV_eq kid,Re.cells_eq kid,iD,bD,hk0,hl0,d7]
  refine loop_rule (fun m e s=>∃(k:Nat) (s1:Sst),m=k∧k≤i.toNat + 1∧e 0=.rf 0 g0 0 0∧e 3=.d (capD c)∧e 10=.d (Goal.mk 0 kid 0 0 (.mk 4 (.mk 0 [] [] 0 0 0 0 false) 0 i .nil)).d∧e 14=i64 ((k:Int) - 1)∧s=srS g0 t most F s1 ∧
    behindR (fun k st=>firstR (evR t F n) (.mk 0 kid 0 0 (.mk 4 (.mk 0 [] [] 0 0 0 0 false) 0 i .nil)) k c st) k s1=some (r,st'))
   ⟨_,_,_,(Cln.freeze [4,5] [10]).trans (Cln.cut 3 (by omega) rfl ?_ [0,3,10,14] ?_),i.toNat + 1,st,rfl,Nat.le_refl _,?_,?_,?_,?_,?_,hr⟩ ?_
  ·simp only[killO,kill1,List.getElem?_cons_zero,List.getElem?_cons_succ,List.set_cons_succ,List.set_cons_zero,List.take,List.all_cons,List.all_nil,objOk]
   simp only[Bool.and_true]
   rw[Bool.and_eq_true]
   exact⟨rfl,andAll _ _⟩
  ·rfl
  ·rfl
  ·rfl
  ·rw[hgd]; rfl
  ·simp only[keepE,freezeE,updE,List.contains_cons,List.contains_nil,Nat.reduceBEq,Bool.or_false,Bool.false_or,Bool.true_or,Bool.or_true,if_true,Bool.false_eq_true,if_false,reduceIte,Nat.reduceEqDiff,i64]
   congr 3
   omega
  ·rfl
  generalize hG:Goal.mk 0 kid 0 0 (.mk 4 (.mk 0 [] [] 0 0 0 0 false) 0 i .nil)=G at *
  rintro m e s ⟨k,s1,rfl,hk,h0,h3,h10,h14,rfl,hb⟩
  cases m with
  | zero =>
   simp only[behindR,Option.some.injEq,Prod.mk.injEq] at hb
   obtain⟨rfl,rfl⟩:=hb
   rw[show ((0:Nat):Int) - 1=-1 from rfl] at h14
   unfold srS srO
   simp only[zX,simprocAttr,i64,bV,iD,bD,h0,h3,h10,h14,ge_iff_le]
   exact⟨andAll _ _,rfl⟩
  | succ k =>
   rw[show ((k + 1:Nat):Int) - 1=k by omega] at h14
   have hk0:(0:Int)≤(k:Int):=by omega
   simp only[behindR] at hb
   by_cases he:s1.empty=true
   ·rw[if_pos he] at hb
    simp only[Option.some.injEq,Prod.mk.injEq] at hb
    obtain⟨rfl,rfl⟩:=hb
    unfold srS srO
    simp only[zX,simprocAttr,i64,bV,iD,bD,h0,h3,h10,h14,ge_iff_le,hk0,he]
    exact⟨andAll _ _,rfl⟩
   ·rw[if_neg he] at hb
    have he:s1.empty=false:=by simpa using he
    cases hx:firstR (evR t F n) G k c s1 with
    | none=>rw[hx] at hb; cases hb
    | some x =>
     obtain⟨r1,s2⟩:=x
     rw[hx] at hb
     have hf:=first_ok (g0:=g0) (most:=most) ih hx
     unfold srS srO at hf
     simp only[i64,bV,iD,he] at hf
     have w1:IntKind.i64.wrap ((k:Int) - 1)=(k:Int) - 1:=w64 _ (by omega)
     cases r1 with
     | none =>
      unfold srS srO
      simp only[zX,simprocAttr,i64,bV,iD,bD,h0,h3,h10,h14,ge_iff_le,hk0,he]
      refine callWp_mono hf (fun v s' hv=>?_)
      obtain⟨rfl,rfl⟩:=hv
      simp only[zX,simprocAttr,i64,bV,iD,bD,foundV,h0,h3,h10,h14,w1]
      refine⟨k,_,_,by omega,Cln.refl,k,s2,rfl,by omega,?_,?_,?_,?_,rfl,hb⟩ <;> (try simp only[zU,Nat.reduceBEq,Nat.reduceShiftRight,Nat.reduceMod,Nat.reduceEqDiff,reduceIte])
      ·exact h0
      ·exact h3
      ·exact h10
     | some p =>
      obtain⟨e1,d⟩:=p
      simp only[Option.some.injEq,Prod.mk.injEq] at hb
      obtain⟨rfl,rfl⟩:=hb
      unfold srS srO
      simp only[zX,simprocAttr,i64,bV,iD,bD,h0,h3,h10,h14,ge_iff_le,hk0,he]
      refine callWp_mono hf (fun v s' hv=>?_)
      obtain⟨rfl,rfl⟩:=hv
      simp only[zX,simprocAttr,i64,bV,iD,bD,foundV,h0,h3,h10,h14,w1]
      exact⟨andAll _ _,rfl⟩
theorem look_ext {t:List Int} {F:Int} {n:Nat} (ih:RunOK t F n) {g0:Nat} {most:Int} {re kid:Re} {l:List Re} (hk:re.kids=kid::l) {i:Int} (hi0:0≤i) (hi1:i≤1000000) {c:CapsL} {st st':Sst} {r:Option CapsL}
  (hr:lookR (evR t F n) re.op kid i c st=some (r,st')) (ext:List VL.Obj) :
  callWp prog 149 [.rf 0 g0 0 0,reV re,i64 i,.d (capD c)] (srS g0 t most F st++ext) fun v s=>v=lookV r∧s=srS g0 t most F st'++ext :=
 call_sr (look_ok ih hk hi0 hi1 hr) (by simp only[List.map_cons,List.map_nil,renV_reV]; rfl) (by simp only[refsV.go,refsV_reV]; rfl) (ren_look r) ⟨rfl,rfl⟩
def StepTo (t:List Int) (F:Int) (g0:Nat) (most:Int) (st s1:Sst):Prop:=∀ext,callWp prog 146 [.rf 0 g0 0 0] (srS g0 t most F st++ext) fun v s=>v=bV (!s1.empty)∧s=srS g0 t most F s1++ext
theorem node_other {t:List Int} {F:Int} {n:Nat} (ih:RunOK t F n) (ht:t.length≤1000000) {g0:Nat} {most:Int} {kind:Int} {re:Re} {k frm:Int} {next:Goal} {i:Int} {c:CapsL} {st s1 st':Sst} {b:Bool} (o:re.op≠1∧re.op≠2∧re.op≠3∧re.op≠4∧re.op≠5∧re.op≠6∧re.op≠7∧re.op≠8∧re.op≠9∧re.op≠10∧re.op≠11)
  (hi0:0≤i) (hi1:i≤t.length) (hset:re.set.length≤1000000000) (hkids:re.kids.length≤1000000000) (hcl:c.length≤1000000000) (he:s1.empty=false) (hst:StepTo t F g0 most st s1)
  (hr:nodeR t (evR t F n) most re next i c s1=some (b,st')) :
  callWp prog 114 [.rf 0 g0 0 0,.d (Goal.mk kind re k frm next).d,i64 i,.d (capD c)] (srS g0 t most F st) fun v s=>v=bV b∧s=srS g0 t most F st':=by
 unfold StepTo srS srO at hst
 simp only[i64,bV,iD,List.cons_append,List.nil_append] at hst
 have d4:decide (re.op=4)=false:=decide_eq_false (by omega)
 have d1:decide (re.op=1)=false:=decide_eq_false (by omega)
 have d2:decide (re.op=2)=false:=decide_eq_false (by omega)
 have d3:decide (re.op=3)=false:=decide_eq_false (by omega)
 have d5:decide (re.op=5)=false:=decide_eq_false (by omega)
 have d6:decide (re.op=6)=false:=decide_eq_false (by omega)
 have d7:decide (re.op=7)=false:=decide_eq_false (by omega)
 have d8:decide (re.op=8)=false:=decide_eq_false (by omega)
 have d9:decide (re.op=9)=false:=decide_eq_false (by omega)
 have d10:decide (re.op=10)=false:=decide_eq_false (by omega)
 have d11:decide (re.op=11)=false:=decide_eq_false (by omega)
 unfold nodeR at hr
 rw[if_neg (by omega),if_neg (by omega),if_neg (by omega),if_neg (by omega),if_neg (by omega),if_neg (by omega),if_neg (by omega),if_neg (by omega),if_neg (by omega)] at hr
 have hc:=fun ext=>sr_ext (ih g0 _ _ _ _ _ hr) ext
 unfold taskF taskA srS srO at hc; simp only[Goal.d_mk,i64,iD,bD,bV,List.cons_append,List.nil_append] at hc
 simp only[he] at hc
 unfold srS srO
 refine fn_ok func114 rfl ntmps114 results114 rfl 3 26328072917139296674479506920917608079723773850137295405767982863 (by simp) (by simp) ?_
 simp only[zX,simprocAttr,i64,bV,Goal.d_mk,iD,bD,d4,d1,d2,d3,d5,d6,d7,d8,d9,d10,d11]
 refine callWp_mono (hst _) (fun v s' hv=>?_)
 obtain⟨rfl,rfl⟩:=hv
 simp only[zX,simprocAttr,i64,bV,iD,bD,he,Bool.not_false,Bool.not_true,d4,d1,d2,d3,d5,d6,d7,d8,d9,d10,d11]
 (refine callWp_mono (hc _) (fun v s' hv=>?_); obtain⟨rfl,rfl⟩:=hv)
 simp only[zX,simprocAttr,i64,bV,iD,bD]
 first | exact andAll _ _ | exact⟨andAll _ _,rfl⟩
theorem node_11 {t:List Int} {F:Int} {n:Nat} (ih:RunOK t F n) (ht:t.length≤1000000) {g0:Nat} {most:Int} {kind:Int} {re:Re} {k frm:Int} {next:Goal} {i:Int} {c:CapsL} {st s1 st':Sst} {b:Bool} (o:re.op=11)
  (hi0:0≤i) (hi1:i≤t.length) (hset:re.set.length≤1000000000) (hkids:re.kids.length≤1000000000) (hcl:c.length≤1000000000) (he:s1.empty=false) (hst:StepTo t F g0 most st s1)
  (hr:nodeR t (evR t F n) most re next i c s1=some (b,st')) :
  callWp prog 114 [.rf 0 g0 0 0,.d (Goal.mk kind re k frm next).d,i64 i,.d (capD c)] (srS g0 t most F st) fun v s=>v=bV b∧s=srS g0 t most F st':=by
 unfold StepTo srS srO at hst
 simp only[i64,bV,iD,List.cons_append,List.nil_append] at hst
 have d4:decide (re.op=4)=false:=decide_eq_false (by omega)
 have d1:decide (re.op=1)=false:=decide_eq_false (by omega)
 have d2:decide (re.op=2)=false:=decide_eq_false (by omega)
 have d3:decide (re.op=3)=false:=decide_eq_false (by omega)
 have d5:decide (re.op=5)=false:=decide_eq_false (by omega)
 have d6:decide (re.op=6)=false:=decide_eq_false (by omega)
 have d7:decide (re.op=7)=false:=decide_eq_false (by omega)
 have d8:decide (re.op=8)=false:=decide_eq_false (by omega)
 have d9:decide (re.op=9)=false:=decide_eq_false (by omega)
 have d10:decide (re.op=10)=false:=decide_eq_false (by omega)
 have d11:decide (re.op=11)=true:=decide_eq_true o
 unfold nodeR at hr
 rw[if_neg (by omega),if_neg (by omega),if_neg (by omega),if_neg (by omega),if_neg (by omega),if_neg (by omega),if_neg (by omega),if_neg (by omega),if_pos o] at hr
 have hh:=holds_ok re.n t i ht hi0 hi1
 simp only[i64,bV] at hh
 cases hb:holdsR re.n t i with
 | true =>
  rw[if_pos hb] at hr
  rw[hb] at hh
  have hc:=fun ext=>sr_ext (ih g0 _ _ _ _ _ hr) ext
  unfold taskF taskA srS srO at hc; simp only[Goal.d_mk,i64,iD,bD,bV,List.cons_append,List.nil_append] at hc
  simp only[he] at hc
  unfold srS srO
  refine fn_ok func114 rfl ntmps114 results114 rfl 3 26328072917139296674479506920917608079723773850137295405767982863 (by simp) (by simp) ?_
  simp only[zX,simprocAttr,i64,bV,Goal.d_mk,iD,bD,d4,d1,d2,d3,d5,d6,d7,d8,d9,d10,d11]
  refine callWp_mono (hst _) (fun v s' hv=>?_)
  obtain⟨rfl,rfl⟩:=hv
  simp only[zX,simprocAttr,i64,bV,iD,bD,he,Bool.not_false,Bool.not_true,d4,d1,d2,d3,d5,d6,d7,d8,d9,d10,d11]
  refine draw_c mix [16] [] (by rfl) ?_
  simp only[zX,simprocAttr,i64,bV,iD,bD]
  refine callC_pure hh rfl rfl ?_
  simp only[zX,simprocAttr,i64,bV,iD,bD]
  refine callD_of (hc _) ?_
  simp only[zX,simprocAttr,i64,bV,iD,bD]
  first | exact andAll _ _ | exact⟨andAll _ _,rfl⟩
 | false =>
  rw[if_neg (by rw[hb]; decide)] at hr
  rw[hb] at hh
  simp only[Option.some.injEq,Prod.mk.injEq] at hr
  obtain⟨rfl,rfl⟩:=hr
  unfold srS srO
  refine fn_ok func114 rfl ntmps114 results114 rfl 3 26328072917139296674479506920917608079723773850137295405767982863 (by simp) (by simp) ?_
  simp only[zX,simprocAttr,i64,bV,Goal.d_mk,iD,bD,d4,d1,d2,d3,d5,d6,d7,d8,d9,d10,d11]
  refine callWp_mono (hst _) (fun v s' hv=>?_)
  obtain⟨rfl,rfl⟩:=hv
  simp only[zX,simprocAttr,i64,bV,iD,bD,he,Bool.not_false,Bool.not_true,d4,d1,d2,d3,d5,d6,d7,d8,d9,d10,d11]
  refine draw_c mix [16] [] (by rfl) ?_
  simp only[zX,simprocAttr,i64,bV,iD,bD]
  refine callC_pure hh rfl rfl ?_
  simp only[zX,simprocAttr,i64,bV,iD,bD]
  first | exact andAll _ _ | exact⟨andAll _ _,rfl⟩
theorem node_1 {t:List Int} {F:Int} {n:Nat} (ih:RunOK t F n) (ht:t.length≤1000000) {g0:Nat} {most:Int} {kind:Int} {re:Re} {k frm:Int} {next:Goal} {i:Int} {c:CapsL} {st s1 st':Sst} {b:Bool} (o:re.op=1)
  (hi0:0≤i) (hi1:i≤t.length) (hset:re.set.length≤1000000000) (hkids:re.kids.length≤1000000000) (hcl:c.length≤1000000000) (he:s1.empty=false) (hst:StepTo t F g0 most st s1)
  (hr:nodeR t (evR t F n) most re next i c s1=some (b,st')) :
  callWp prog 114 [.rf 0 g0 0 0,.d (Goal.mk kind re k frm next).d,i64 i,.d (capD c)] (srS g0 t most F st) fun v s=>v=bV b∧s=srS g0 t most F st':=by
 unfold StepTo srS srO at hst
 simp only[i64,bV,iD,List.cons_append,List.nil_append] at hst
 have d4:decide (re.op=4)=false:=decide_eq_false (by omega)
 have d1:decide (re.op=1)=true:=decide_eq_true o
 unfold nodeR at hr
 rw[if_pos o] at hr
 have hh:=in_ok re.set (tAt t i) hset
 simp only[i64,bV] at hh
 have w1:IntKind.i64.wrap (i + 1)=i + 1:=w64 _ (by omega)
 by_cases q:i < (t.length:Int)
 ·have hg:=tAt_get hi0 q
  cases hb:inB re.set (tAt t i) with
  | true =>
   rw[if_pos ⟨q,hb⟩] at hr
   rw[hb] at hh
   have hc:=fun ext=>sr_ext (ih g0 _ _ _ _ _ hr) ext
   unfold taskF taskA srS srO at hc; simp only[Goal.d_mk,i64,iD,bD,bV,List.cons_append,List.nil_append] at hc
   simp only[he] at hc
   unfold srS srO
   refine fn_ok func114 rfl ntmps114 results114 rfl 3 26328072917139296674479506920917608079723773850137295405767982863 (by simp) (by simp) ?_
   simp only[zX,simprocAttr,i64,bV,Goal.d_mk,iD,bD,d4,d1]
   refine callWp_mono (hst _) (fun v s' hv=>?_)
   obtain⟨rfl,rfl⟩:=hv
   simp only[zX,simprocAttr,i64,bV,iD,bD,he,Bool.not_false,Bool.not_true,d4,d1]
   refine draw_c mix [28] [] (by rfl) ?_
   simp only[zX,simprocAttr,i64,bV,iD,bD,q,hi0,hg,intsD]
   refine callC_pure hh rfl rfl ?_
   simp only[zX,simprocAttr,i64,bV,iD,bD,w1]
   refine callD_of (hc _) ?_
   simp only[zX,simprocAttr,i64,bV,iD,bD]
   first | exact andAll _ _ | exact⟨andAll _ _,rfl⟩
  | false =>
   rw[if_neg (by rw[hb]; simp)] at hr
   rw[hb] at hh
   simp only[Option.some.injEq,Prod.mk.injEq] at hr
   obtain⟨rfl,rfl⟩:=hr
   unfold srS srO
   refine fn_ok func114 rfl ntmps114 results114 rfl 3 26328072917139296674479506920917608079723773850137295405767982863 (by simp) (by simp) ?_
   simp only[zX,simprocAttr,i64,bV,Goal.d_mk,iD,bD,d4,d1]
   refine callWp_mono (hst _) (fun v s' hv=>?_)
   obtain⟨rfl,rfl⟩:=hv
   simp only[zX,simprocAttr,i64,bV,iD,bD,he,Bool.not_false,Bool.not_true,d4,d1]
   refine draw_c mix [28] [] (by rfl) ?_
   simp only[zX,simprocAttr,i64,bV,iD,bD,q,hi0,hg,intsD]
   refine callC_pure hh rfl rfl ?_
   simp only[zX,simprocAttr,i64,bV,iD,bD]
   first | exact andAll _ _ | exact⟨andAll _ _,rfl⟩
 ·rw[if_neg (fun h=>q h.1)] at hr
  simp only[Option.some.injEq,Prod.mk.injEq] at hr
  obtain⟨rfl,rfl⟩:=hr
  unfold srS srO
  refine fn_ok func114 rfl ntmps114 results114 rfl 3 26328072917139296674479506920917608079723773850137295405767982863 (by simp) (by simp) ?_
  simp only[zX,simprocAttr,i64,bV,Goal.d_mk,iD,bD,d4,d1]
  refine callWp_mono (hst _) (fun v s' hv=>?_)
  obtain⟨rfl,rfl⟩:=hv
  simp only[zX,simprocAttr,i64,bV,iD,bD,he,Bool.not_false,Bool.not_true,d4,d1]
  refine draw_c mix [28] [] (by rfl) ?_
  simp only[zX,simprocAttr,i64,bV,iD,bD,q,hi0,intsD]
  first | exact andAll _ _ | exact⟨andAll _ _,rfl⟩
theorem node_5 {t:List Int} {F:Int} {n:Nat} (ih:RunOK t F n) (ht:t.length≤1000000) {g0:Nat} {most:Int} {kind:Int} {re:Re} {k frm:Int} {next:Goal} {i:Int} {c:CapsL} {st s1 st':Sst} {b:Bool} (o:re.op=5)
  (hi0:0≤i) (hi1:i≤t.length) (hset:re.set.length≤1000000000) (hkids:re.kids.length≤1000000000) (hcl:c.length≤1000000000) (he:s1.empty=false) (hst:StepTo t F g0 most st s1)
  (hr:nodeR t (evR t F n) most re next i c s1=some (b,st')) :
  callWp prog 114 [.rf 0 g0 0 0,.d (Goal.mk kind re k frm next).d,i64 i,.d (capD c)] (srS g0 t most F st) fun v s=>v=bV b∧s=srS g0 t most F st':=by
 unfold StepTo srS srO at hst
 simp only[i64,bV,iD,List.cons_append,List.nil_append] at hst
 have d4:decide (re.op=4)=false:=decide_eq_false (by omega)
 have d1:decide (re.op=1)=false:=decide_eq_false (by omega)
 have d2:decide (re.op=2)=false:=decide_eq_false (by omega)
 have d3:decide (re.op=3)=false:=decide_eq_false (by omega)
 have d5:decide (re.op=5)=true:=decide_eq_true o
 unfold nodeR at hr
 rw[if_neg (by omega),if_neg (by omega),if_neg (by omega),if_pos o] at hr
 cases hk:re.kids with
 | nil=>rw[hk] at hr; cases hr
 | cons kid l =>
  rw[hk] at hr
  have hk0:re.kids[0]?=some kid:=by rw[hk]; rfl
  have hl0:(0:Int) < (re.kids.length:Int):=by rw[hk,List.length_cons]; omega
  clear hk
  simp only at hr
  have hc:=fun ext=>sr_ext (ih g0 _ _ _ _ _ hr) ext
  unfold taskF taskA srS srO at hc; simp only[Goal.d_mk,i64,iD,bD,bV,List.cons_append,List.nil_append] at hc
  simp only[he] at hc
  unfold srS srO
  refine fn_ok func114 rfl ntmps114 results114 rfl 3 26328072917139296674479506920917608079723773850137295405767982863 (by simp) (by simp) ?_
  simp only[zX,simprocAttr,i64,bV,Goal.d_mk,iD,bD,d4,d1,d2,d3,d5]
  refine callWp_mono (hst _) (fun v s' hv=>?_)
  obtain⟨rfl,rfl⟩:=hv
  simp only[zX,simprocAttr,i64,bV,iD,bD,he,Bool.not_false,Bool.not_true,d4,d1,d2,d3,d5]
  refine draw_first (Cln0.trans Cln0.reserve Cln0.reserve) ?_
  refine draw_c mix [17] [(12,[4],[4]),(14,[5],[5])] (by rfl) ?_
  simp only[zX,simprocAttr,i64,bV,iD,bD,hole,hk0,hl0,reV_eq kid,Re.cells_eq kid]
  refine callD_of (call_give [4,5] (by simp [killO,kill1,frzV.go,frzV,frzD]) (hc _)) ?_
  simp only[zX,simprocAttr,i64,bV,iD,bD]
  first | exact andAll _ _ | exact⟨andAll _ _,rfl⟩
end Go.Proofs.Ytllagoeijcjpiaa
