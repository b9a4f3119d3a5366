/- A part of the proof (MM11 MM12). -/
import Derived.Test.YtpppfpaalcbggaaML8
import Derived.Test.YtpppfpaalcbggaaML9
set_option linter.unusedSimpArgs false
set_option linter.unusedVariables false
set_option maxRecDepth 100000
set_option maxHeartbeats 80000000
namespace Go.Proofs.Ytpppfpaalcbggaa
open Go.VL
theorem mmround_ok (m:Mm) (nd:Nd) (n at_ env:Int) (nx:Gl) (p:MPl) (hok:RndOK m nd n env p) {x:RsM} (hx:roundM m nd n env p=some x) :
  callWp Try.prog 89 [.rf 0 0 0 0,.d (Gl.mk 1 (some nd) n at_ env nx).d,p.v] m.objs fun v s=>v=rsM x.2.1 x.2.2∧s=x.1.objs:=by
 by_cases hstop:nd.re.mn≤n∧0≤nd.re.mx∧nd.re.mx≤n
 ·exact mmround_stop m nd n at_ env nx p hok hstop hx
 by_cases hlt:n < nd.re.mn
 ·exact mmround_more m nd n at_ env nx p hok hstop hlt hx
 by_cases hmo:nd.re.mode=1
 ·exact mmround_lazy m nd n at_ env nx p hok hstop hlt hmo hx
 ·exact mmround_greedy m nd n at_ env nx p hok hstop hlt hmo hx
def Mm.keys (m:Mm):Prop:=(∀b∈m.failed,b.fit=true)∧∀p∈m.frames,p.1.fit=true
def Mm.wf (m:Mm):Prop:=m.keys∧∀b,Ltr.note b∈m.stk→b.fit=true
def MSearchOK (k:Nat):Prop:=∀m base p x,Mm.wf m→srchM k true m base p true=some x→callWp Try.prog 56 [.rf 0 0 0 0,i64 (base:Nat),p.v] m.objs fun v s=>v=rsM x.2.1 x.2.2∧s=x.1.objs
theorem mclear_stk (m:Mm) (base:Nat) (h:base≤m.top):putEls (m.stk.map stM) base (List.replicate (m.top - base) [V.d (D.sc (.int .i64 0)),.d (D.sc (.pointer none)),.d (D.sc (.pointer none)),.d (D.sc (.int .i16 0)),.d (D.sc (.int .i16 0)),.d (D.sc (.int .i16 0)),.d (D.sc (.int .i32 0)),.d (D.sc (.int .i32 0)),.d (D.sc (.int .i32 0)),.d (D.sc (.int .i32 0)),.d (D.sc (.bool false))])=(m.clear base).stk.map stM:=by
 unfold putEls Mm.clear
 simp only[List.map_append,List.map_take,List.map_drop,List.map_replicate,List.length_replicate,List.append_assoc]
 rw[show base + (m.top - base)=m.top by omega]
 rfl
theorem mmfirst_ok {k:Nat} (ih:MSearchOK k) (m:Mm) (hW:m.wf) (p:MPl) (stop:Int) {x:RsM} (hx:firstM (fun m base p=>srchM k true m base p true) m p stop=some x) :
  callWp Try.prog 27 [.rf 0 0 0 0,p.v,i64 stop] m.objs fun v s=>v=rsM x.2.1 x.2.2∧s=x.1.objs:=by
 simp only[firstM] at hx
 cases hs:srchM k true { m with stop:=stop } m.top p true with
 | none=>rw[hs] at hx; cases hx
 | some y =>
  obtain⟨m1,p1,found⟩:=y
  rw[hs] at hx
  simp only at hx
  split at hx
  ·cases hx
  rename_i hc
  cases hx
  have hst:=fun ext=>call_mm (ih { m with stop:=stop } m.top p _ hW hs) rfl rfl rfl ext
  obtain⟨m2,hm2⟩:∃m2,({ m1 with stop:=m.stop }:Mm).clear m.top=m2:=⟨_,rfl⟩
  have q1:m.top≤m1.top:=by omega
  have q2:m1.top≤m1.stk.length:=by omega
  have q3:(m.top:Int)≤(m1.top:Int):=by omega
  have q4:(0:Int)≤(m.top:Int):=by omega
  have hmin:min m1.top m1.stk.length=m1.top:=by omega
  have hcl:=mclear_stk ({ m1 with stop:=m.stop }:Mm) m.top q1
  have hall2:=mm_all m2
  have hlen:m2.stk.length=m1.stk.length:=by
   rw[← hm2]
   simp only[Mm.clear,List.length_append,List.length_take,List.length_replicate,List.length_drop]
   omega
  rw[hm2] at hcl ⊢
  unfold Mm.objs at hst
  simp only[i64,bV,iD,bD,List.cons_append,List.nil_append,List.map_cons,List.map_nil,MPl.v,MPl.cells,rsM] at hst
  unfold Mm.objs
  refine fn_ok Try.func27 rfl Try.ntmps27 Try.results27 rfl 7 2007 (by exact Nat.le_refl _) (by simp) ?_
  simp only[zX,Nat.reduceShiftRight,Nat.reduceMod,Nat.reduceLT,Nat.reduceMul,Nat.reduceSub,Int.reduceToNat,Int.reduceNeg,Int.reduceLT,Int.reduceLE,Int.reduceEq,Nat.reduceEqDiff,Nat.reduceAdd,Nat.reduceLeDiff,reduceIte,reduceCtorEq,Nat.reduceBEq,i64,bV,iD,bD,List.cons_append,List.nil_append,List.map_cons,List.map_nil,MPl.v,MPl.cells,rsM]
  refine draw_c mix [] [] (by rfl) ?_
  simp only[zX,Nat.reduceShiftRight,Nat.reduceMod,Nat.reduceLT,Nat.reduceMul,Nat.reduceSub,Int.reduceToNat,Int.reduceNeg,Int.reduceLT,Int.reduceLE,Int.reduceEq,Nat.reduceEqDiff,Nat.reduceAdd,Nat.reduceLeDiff,reduceIte,reduceCtorEq,Nat.reduceBEq,i64,bV,iD,bD,List.cons_append,List.nil_append,List.map_cons,List.map_nil,MPl.v,MPl.cells,rsM]
  refine callWp_mono (hst _) (fun v s' hv=>?_); obtain⟨rfl,rfl⟩:=hv
  have hsub:((m1.top:Int) - (m.top:Int)).toNat=m1.top - m.top:=by omega
  have q7:m1.top≤m2.stk.length:=by omega
  have hmin2:min m1.top m2.stk.length=m1.top:=by omega
  have hfin:∀X:List VL.Obj,X=X:=fun _=>rfl
  rcases Nat.lt_or_ge m.top m1.top with q5 | q5
  ·have q6:(m.top:Int) < (m1.top:Int):=by omega
   simp only[zX,Nat.reduceShiftRight,Nat.reduceMod,Nat.reduceLT,Nat.reduceMul,Nat.reduceSub,Int.reduceToNat,Int.reduceNeg,Int.reduceLT,Int.reduceLE,Int.reduceEq,Nat.reduceEqDiff,Nat.reduceAdd,Nat.reduceLeDiff,reduceIte,reduceCtorEq,Nat.reduceBEq,i64,bV,iD,bD,List.cons_append,List.nil_append,List.map_cons,List.map_nil,MPl.v,MPl.cells,rsM,q1,q2,q3,q4,q6,q7,hmin,hmin2,hsub,hcl,List.length_take,List.length_map,Int.toNat_natCast,Nat.zero_add,or_true,clearWp,Int.le_refl,Nat.le_refl,Int.sub_zero]
   refine⟨by omega,?_⟩
   subst hm2
   exact⟨hall2,rfl⟩
  ·have q8:m1.top=m.top:=by omega
   have q6:¬(m.top:Int) < (m1.top:Int):=by omega
   by_cases z:(m.top:Int)=0
   ·have y:=eq_true z
    simp only[zX,Nat.reduceShiftRight,Nat.reduceMod,Nat.reduceLT,Nat.reduceMul,Nat.reduceSub,Int.reduceToNat,Int.reduceNeg,Int.reduceLT,Int.reduceLE,Int.reduceEq,Nat.reduceEqDiff,Nat.reduceAdd,Nat.reduceLeDiff,reduceIte,reduceCtorEq,Nat.reduceBEq,i64,bV,iD,bD,List.cons_append,List.nil_append,List.map_cons,List.map_nil,MPl.v,MPl.cells,rsM,q1,q2,q3,q4,q6,q7,y,hmin,hmin2,hsub,hcl,List.length_take,List.length_map,Int.toNat_natCast,Nat.zero_add,true_or,clearWp,Int.le_refl,Nat.le_refl,Int.sub_zero]
    refine⟨by omega,?_⟩
    subst hm2
    exact⟨hall2,rfl⟩
   ·have y:=eq_false z
    have hce:m2=({ m1 with stop:=m.stop }:Mm):=by
     rw[← hm2,← q8]
     obtain⟨⟩:=m1
     simp only[Mm.clear,Nat.sub_self,List.replicate_zero,List.nil_append,List.take_append_drop]
    subst hce
    simp only[zX,Nat.reduceShiftRight,Nat.reduceMod,Nat.reduceLT,Nat.reduceMul,Nat.reduceSub,Int.reduceToNat,Int.reduceNeg,Int.reduceLT,Int.reduceLE,Int.reduceEq,Nat.reduceEqDiff,Nat.reduceAdd,Nat.reduceLeDiff,reduceIte,reduceCtorEq,Nat.reduceBEq,i64,bV,iD,bD,List.cons_append,List.nil_append,List.map_cons,List.map_nil,MPl.v,MPl.cells,rsM,q1,q2,q3,q4,q6,y,hmin,hsub,List.length_take,List.length_map,Int.toNat_natCast,Nat.zero_add,true_or,or_false,clearWp,Int.le_refl,Nat.le_refl,Int.sub_zero]
    rw[← q8]
    exact⟨hall2,rfl⟩
theorem mmalone_ok {k:Nat} (ih:MSearchOK k) (m:Mm) (hW:m.wf) (p:MPl) (part:Gl) {x:RsM} (hx:aloneM (fun m base p=>srchM k true m base p true) m p part=some x) :
  callWp Try.prog 100 [.rf 0 0 0 0,p.v,.d part.d] m.objs fun v s=>v=rsM x.2.1 x.2.2∧s=x.1.objs:=by
 unfold aloneM at hx
 cases hs:firstM (fun m base p=>srchM k true m base p true) m { p with todo:=part } (-1) with
 | none=>rw[hs] at hx; cases hx
 | some y =>
  obtain⟨m1,r,found⟩:=y
  rw[hs] at hx
  cases hx
  have hst:=fun ext=>call_mm (mmfirst_ok ih m hW _ _ hs) rfl rfl rfl ext
  have hall1:=mm_all m1
  unfold Mm.objs at hst
  simp only[i64,bV,iD,bD,List.cons_append,List.nil_append,List.map_cons,List.map_nil,MPl.v,MPl.cells,rsM] at hst
  unfold Mm.objs
  refine fn_ok Try.func100 rfl Try.ntmps100 Try.results100 rfl 7 983 (by exact Nat.le_refl _) (by simp) ?_
  simp only[zX,Nat.reduceShiftRight,Nat.reduceMod,Nat.reduceLT,Nat.reduceMul,Nat.reduceSub,Int.reduceToNat,Int.reduceNeg,Int.reduceLT,Int.reduceLE,Int.reduceEq,Nat.reduceEqDiff,Nat.reduceAdd,Nat.reduceLeDiff,reduceIte,reduceCtorEq,Nat.reduceBEq,i64,bV,iD,bD,List.cons_append,List.nil_append,List.map_cons,List.map_nil,MPl.v,MPl.cells,rsM]
  refine callWp_mono (hst _) (fun v s' hv=>?_); obtain⟨rfl,rfl⟩:=hv
  simp only[zX,Nat.reduceShiftRight,Nat.reduceMod,Nat.reduceLT,Nat.reduceMul,Nat.reduceSub,Int.reduceToNat,Int.reduceNeg,Int.reduceLT,Int.reduceLE,Int.reduceEq,Nat.reduceEqDiff,Nat.reduceAdd,Nat.reduceLeDiff,reduceIte,reduceCtorEq,Nat.reduceBEq,i64,bV,iD,bD,List.cons_append,List.nil_append,List.map_cons,List.map_nil,MPl.v,MPl.cells,rsM]
  exact hall1
theorem gl_nil:Gl.nil.d=.sc (.pointer none):=by rw[Gl.d]
theorem mmrep_ok {k:Nat} (ih:MSearchOK k) (m:Mm) (hW:m.wf) (nd:Nd) (n at_ env:Int) (nx:Gl) (p:MPl) {x:RsM} (hx:repM (fun m base p=>srchM k true m base p true) m nd env { p with todo:=nx }=some x) :
  callWp Try.prog 86 [.rf 0 0 0 0,.d (Gl.mk 0 (some nd) n at_ env nx).d,p.v] m.objs fun v s=>v=rsM x.2.1 x.2.2∧s=x.1.objs:=by
 unfold repM at hx
 have hall:=mm_all m
 by_cases c:nd.re.mode=2
 ·rw[if_pos c] at hx
  have hst:=fun ext=>call_mm (mmalone_ok ih m hW { p with todo:=nx } (.mk 1 (some nd) 0 0 0 .nil) hx) rfl rfl rfl ext
  obtain⟨m1,p1,found⟩:=x
  have hall1:=mm_all m1
  unfold Mm.objs at hst
  simp only[i64,bV,iD,bD,List.cons_append,List.nil_append,List.map_cons,List.map_nil,MPl.v,MPl.cells,rsM,Gl.d_mk,Nd.d_eq nd,gl_nil,Re.cells_eq nd.re,c] at hst
  unfold Mm.objs
  rw[Gl.d_mk,Nd.d_eq nd]
  refine fn_ok Try.func86 rfl Try.ntmps86 Try.results86 rfl 7 231 (by exact Nat.le_refl _) (by simp) ?_
  simp only[zX,Nat.reduceShiftRight,Nat.reduceMod,Nat.reduceLT,Nat.reduceMul,Nat.reduceSub,Int.reduceToNat,Int.reduceNeg,Int.reduceLT,Int.reduceLE,Int.reduceEq,Nat.reduceEqDiff,Nat.reduceAdd,Nat.reduceLeDiff,reduceIte,reduceCtorEq,Nat.reduceBEq,i64,bV,iD,bD,List.cons_append,List.nil_append,List.map_cons,List.map_nil,MPl.v,MPl.cells,rsM,Re.cells_eq nd.re,c]
  refine draw_first Cln0.reserve ?_
  refine draw_c mix [8] [(7,[9],[9]),(11,[8],[8])] (by rfl) ?_
  simp only[zX,Nat.reduceShiftRight,Nat.reduceMod,Nat.reduceLT,Nat.reduceMul,Nat.reduceSub,Int.reduceToNat,Int.reduceNeg,Int.reduceLT,Int.reduceLE,Int.reduceEq,Nat.reduceEqDiff,Nat.reduceAdd,Nat.reduceLeDiff,reduceIte,reduceCtorEq,Nat.reduceBEq,i64,bV,iD,bD,List.cons_append,List.nil_append,List.map_cons,List.map_nil,MPl.v,MPl.cells,rsM,hole]
  refine callD_of (call_give [9] (by simp [killO,kill1,frzV.go,frzV,frzD]) (hst _)) ?_
  simp only[zX,Nat.reduceShiftRight,Nat.reduceMod,Nat.reduceLT,Nat.reduceMul,Nat.reduceSub,Int.reduceToNat,Int.reduceNeg,Int.reduceLT,Int.reduceLE,Int.reduceEq,Nat.reduceEqDiff,Nat.reduceAdd,Nat.reduceLeDiff,reduceIte,reduceCtorEq,Nat.reduceBEq,i64,bV,iD,bD,List.cons_append,List.nil_append,List.map_cons,List.map_nil,MPl.v,MPl.cells,rsM,killO,kill1]
  exact hall1
 ·rw[if_neg c] at hx
  cases hx
  unfold Mm.objs
  rw[Gl.d_mk,Nd.d_eq nd]
  refine fn_ok Try.func86 rfl Try.ntmps86 Try.results86 rfl 7 231 (by exact Nat.le_refl _) (by simp) ?_
  simp only[zX,Nat.reduceShiftRight,Nat.reduceMod,Nat.reduceLT,Nat.reduceMul,Nat.reduceSub,Int.reduceToNat,Int.reduceNeg,Int.reduceLT,Int.reduceLE,Int.reduceEq,Nat.reduceEqDiff,Nat.reduceAdd,Nat.reduceLeDiff,reduceIte,reduceCtorEq,Nat.reduceBEq,i64,bV,iD,bD,List.cons_append,List.nil_append,List.map_cons,List.map_nil,MPl.v,MPl.cells,rsM,Re.cells_eq nd.re,c]
  refine draw_first Cln0.reserve ?_
  refine draw_c mix [] [(13,[9],[9]),(14,[7],[]),(15,[7],[7])] (by rfl) ?_
  simp only[zX,Nat.reduceShiftRight,Nat.reduceMod,Nat.reduceLT,Nat.reduceMul,Nat.reduceSub,Int.reduceToNat,Int.reduceNeg,Int.reduceLT,Int.reduceLE,Int.reduceEq,Nat.reduceEqDiff,Nat.reduceAdd,Nat.reduceLeDiff,reduceIte,reduceCtorEq,Nat.reduceBEq,i64,bV,iD,bD,List.cons_append,List.nil_append,List.map_cons,List.map_nil,MPl.v,MPl.cells,rsM,hole]
  refine⟨hall,?_⟩
  simp only[goM,Gl.d_mk,Nd.d_eq nd,Re.cells_eq nd.re,iD,bD]
end Go.Proofs.Ytpppfpaalcbggaa
