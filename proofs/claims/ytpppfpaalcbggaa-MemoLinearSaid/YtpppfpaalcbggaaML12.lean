/- A part of the proof (MM14 MM15). -/
import Derived.Test.YtpppfpaalcbggaaML11
set_option linter.unusedSimpArgs false
set_option linter.unusedVariables false
set_option maxRecDepth 100000
set_option maxHeartbeats 80000000
namespace Go.Proofs.Ytpppfpaalcbggaa
open Go.VL
theorem fit16_I64 {n:Int} (h:fit16 n=true):I64 n:=by
 unfold fit16 at h
 have:=of_decide_eq_true h
 exact⟨by omega,by omega⟩
theorem fit32_I64 {n:Int} (h:fit32 n=true):I64 n:=by
 unfold fit32 at h
 have:=of_decide_eq_true h
 exact⟨by omega,by omega⟩
theorem enter_facts {m m':Mm} {p:MPl} {ok:Bool} (hx:m.enter p=some (m',ok)) (h2:m.top≤m.stk.length) (hlid:m.top≤1200000000000):m'.t=m.t∧m'.failed=m.failed∧m'.frames=m.frames∧(ok=true→m'.top=m.top + 1∧m'.top≤m'.stk.length):=by
 unfold Mm.enter at hx
 cases hd:m.describe p with
 | none=>rw[hd] at hx; cases hx
 | some b =>
  rw[hd] at hx
  simp only at hx
  split at hx
  ·cases hx; exact⟨rfl,rfl,rfl,fun h=>by cases h⟩
  ·split at hx
   ·cases hx; exact⟨rfl,rfl,rfl,fun h=>by cases h⟩
   ·cases hx
    refine⟨rfl,rfl,rfl,fun _=>⟨rfl,?_⟩⟩
    simp only[Mm.push,List.length_append,List.length_take,List.length_cons,List.length_nil]
    omega
theorem mmadv_ok {k:Nat} (ih:MSearchOK k) (m:Mm) (p:MPl) (hW:m.wf) {x:RsM} (hx:advM (fun m base p=>srchM k true m base p true) m p=some x) :
  callWp Try.prog 69 [.rf 0 0 0 0,p.v] m.objs fun v s=>v=rsM x.2.1 x.2.2∧s=x.1.objs:=by
 have hK:=hW.1
 unfold advM at hx
 by_cases hg:m.good p
 case neg=>rw[if_pos hg] at hx; cases hx
 rw[if_neg (fun h=>h hg)] at hx
 obtain⟨⟨g1,g2,g3,g4⟩,⟨g5,g6⟩,g7⟩:=hg
 obtain⟨pat,pcaps,ptodo⟩:=p
 cases ptodo with
 | nil=>cases hx
 | mk kind node n at_ env next =>
 simp only at hx g5 g6
 split at hx
 ·cases hx
 rename_i hn
 cases node with
 | none=>cases hx
 | some nd =>
 simp only at hx
 split at hx
 ·cases hx
 rename_i hsz
 have hset:nd.re.set.length≤1000000000:=by omega
 have hkids:nd.kids.length≤1000000000:=by omega
 have hall:=mm_all m
 by_cases k0:kind=0
 ·rw[if_pos k0] at hx
  subst k0
  by_cases o4:nd.re.op=4
  ·rw[if_pos o4] at hx
   have hst:=fun ext=>call_mm (mmrep_ok ih m hW nd n at_ env next ⟨pat,pcaps,.mk 0 (some nd) n at_ env next⟩ hx) rfl rfl rfl ext
   obtain⟨m1,p1,ok1⟩:=x
   have hall1:=mm_all m1
   unfold Mm.objs at hst
   simp only[i64,bV,iD,bD,List.cons_append,List.nil_append,List.map_cons,List.map_nil,MPl.v,MPl.cells,rsM,Gl.d_mk,Nd.d_eq nd,Re.cells_eq nd.re,o4] at hst
   unfold Mm.objs
   refine fn_ok Try.func69 rfl Try.ntmps69 Try.results69 rfl 7 8443 (by exact Nat.le_refl _) (by simp) ?_
   simp only[zX,Nat.reduceShiftRight,Nat.reduceMod,Nat.reduceLT,Nat.reduceMul,Nat.reduceSub,Int.reduceToNat,Int.reduceNeg,Int.reduceLT,Int.reduceLE,Int.reduceEq,Nat.reduceEqDiff,Nat.reduceAdd,Nat.reduceLeDiff,reduceIte,reduceCtorEq,Nat.reduceBEq,i64,bV,iD,bD,List.cons_append,List.nil_append,List.map_cons,List.map_nil,MPl.v,MPl.cells,rsM,Gl.d_mk,Nd.d_eq nd,Re.cells_eq nd.re,o4]
   refine callWp_mono (hst _) (fun v s' hv=>?_); obtain⟨rfl,rfl⟩:=hv
   simp only[zX,Nat.reduceShiftRight,Nat.reduceMod,Nat.reduceLT,Nat.reduceMul,Nat.reduceSub,Int.reduceToNat,Int.reduceNeg,Int.reduceLT,Int.reduceLE,Int.reduceEq,Nat.reduceEqDiff,Nat.reduceAdd,Nat.reduceLeDiff,reduceIte,reduceCtorEq,Nat.reduceBEq,i64,bV,iD,bD,List.cons_append,List.nil_append,List.map_cons,List.map_nil,MPl.v,MPl.cells,rsM]
   exact hall1
  rw[if_neg o4] at hx
  cases he:m.enter ⟨pat,pcaps,.mk 0 (some nd) n at_ env next⟩ with
  | none=>rw[he] at hx; cases hx
  | some y =>
  obtain⟨m1,ok⟩:=y
  rw[he] at hx
  simp only at hx
  obtain⟨e1,e2,e3,e4⟩:=enter_facts he g3 g4
  have hen:=fun ext=>call_mm (enter_ok m m1 _ ok he g1 g2 g3 g4 hK.1) rfl rfl rfl ext
  have hall1:=mm_all m1
  unfold Mm.objs at hen
  simp only[i64,bV,iD,bD,List.cons_append,List.nil_append,List.map_cons,List.map_nil,MPl.v,MPl.cells,rsM,Gl.d_mk,Nd.d_eq nd,Re.cells_eq nd.re] at hen
  cases ok with
  | false =>
   rw[if_neg (by simp)] at hx
   cases hx
   unfold Mm.objs
   refine fn_ok Try.func69 rfl Try.ntmps69 Try.results69 rfl 7 8443 (by exact Nat.le_refl _) (by simp) ?_
   simp only[zX,Nat.reduceShiftRight,Nat.reduceMod,Nat.reduceLT,Nat.reduceMul,Nat.reduceSub,Int.reduceToNat,Int.reduceNeg,Int.reduceLT,Int.reduceLE,Int.reduceEq,Nat.reduceEqDiff,Nat.reduceAdd,Nat.reduceLeDiff,reduceIte,reduceCtorEq,Nat.reduceBEq,i64,bV,iD,bD,List.cons_append,List.nil_append,List.map_cons,List.map_nil,MPl.v,MPl.cells,rsM,Gl.d_mk,Nd.d_eq nd,Re.cells_eq nd.re,o4]
   refine callWp_mono (hen _) (fun v s' hv=>?_); obtain⟨rfl,rfl⟩:=hv
   simp only[zX,Nat.reduceShiftRight,Nat.reduceMod,Nat.reduceLT,Nat.reduceMul,Nat.reduceSub,Int.reduceToNat,Int.reduceNeg,Int.reduceLT,Int.reduceLE,Int.reduceEq,Nat.reduceEqDiff,Nat.reduceAdd,Nat.reduceLeDiff,reduceIte,reduceCtorEq,Nat.reduceBEq,i64,bV,iD,bD,List.cons_append,List.nil_append,List.map_cons,List.map_nil,MPl.v,MPl.cells,rsM,Bool.not_false]
   exact⟨hall1,rfl⟩
  | true =>
   rw[if_pos rfl] at hx
   obtain⟨e5,e6⟩:=e4 rfl
   have hst:=fun ext=>call_mm (mmbegin_ok ih m1 nd n at_ env next ⟨pat,pcaps,next⟩ hset hkids g5 (by rw[e1]; exact g7) e6 (by omega) hx) rfl rfl rfl ext
   obtain⟨m2,p2,ok2⟩:=x
   have hall2:=mm_all m2
   unfold Mm.objs at hst
   simp only[i64,bV,iD,bD,List.cons_append,List.nil_append,List.map_cons,List.map_nil,MPl.v,MPl.cells,rsM,Gl.d_mk,Nd.d_eq nd,Re.cells_eq nd.re] at hst
   unfold Mm.objs
   refine fn_ok Try.func69 rfl Try.ntmps69 Try.results69 rfl 7 8443 (by exact Nat.le_refl _) (by simp) ?_
   simp only[zX,Nat.reduceShiftRight,Nat.reduceMod,Nat.reduceLT,Nat.reduceMul,Nat.reduceSub,Int.reduceToNat,Int.reduceNeg,Int.reduceLT,Int.reduceLE,Int.reduceEq,Nat.reduceEqDiff,Nat.reduceAdd,Nat.reduceLeDiff,reduceIte,reduceCtorEq,Nat.reduceBEq,i64,bV,iD,bD,List.cons_append,List.nil_append,List.map_cons,List.map_nil,MPl.v,MPl.cells,rsM,Gl.d_mk,Nd.d_eq nd,Re.cells_eq nd.re,o4]
   refine callWp_mono (hen _) (fun v s' hv=>?_); obtain⟨rfl,rfl⟩:=hv
   simp only[zX,Nat.reduceShiftRight,Nat.reduceMod,Nat.reduceLT,Nat.reduceMul,Nat.reduceSub,Int.reduceToNat,Int.reduceNeg,Int.reduceLT,Int.reduceLE,Int.reduceEq,Nat.reduceEqDiff,Nat.reduceAdd,Nat.reduceLeDiff,reduceIte,reduceCtorEq,Nat.reduceBEq,i64,bV,iD,bD,List.cons_append,List.nil_append,List.map_cons,List.map_nil,MPl.v,MPl.cells,rsM,Bool.not_true]
   refine callWp_mono (hst _) (fun v s' hv=>?_); obtain⟨rfl,rfl⟩:=hv
   simp only[zX,Nat.reduceShiftRight,Nat.reduceMod,Nat.reduceLT,Nat.reduceMul,Nat.reduceSub,Int.reduceToNat,Int.reduceNeg,Int.reduceLT,Int.reduceLE,Int.reduceEq,Nat.reduceEqDiff,Nat.reduceAdd,Nat.reduceLeDiff,reduceIte,reduceCtorEq,Nat.reduceBEq,i64,bV,iD,bD,List.cons_append,List.nil_append,List.map_cons,List.map_nil,MPl.v,MPl.cells,rsM]
   exact hall2
 rw[if_neg k0] at hx
 by_cases k1:kind=1
 ·rw[if_pos k1] at hx
  subst k1
  cases he:m.enter ⟨pat,pcaps,.mk 1 (some nd) n at_ env next⟩ with
  | none=>rw[he] at hx; cases hx
  | some y =>
  obtain⟨m1,ok⟩:=y
  rw[he] at hx
  simp only at hx
  obtain⟨e1,e2,e3,e4⟩:=enter_facts he g3 g4
  have hen:=fun ext=>call_mm (enter_ok m m1 _ ok he g1 g2 g3 g4 hK.1) rfl rfl rfl ext
  have hall1:=mm_all m1
  unfold Mm.objs at hen
  simp only[i64,bV,iD,bD,List.cons_append,List.nil_append,List.map_cons,List.map_nil,MPl.v,MPl.cells,rsM,Gl.d_mk,Nd.d_eq nd,Re.cells_eq nd.re] at hen
  cases ok with
  | false =>
   rw[if_neg (by simp)] at hx
   cases hx
   unfold Mm.objs
   refine fn_ok Try.func69 rfl Try.ntmps69 Try.results69 rfl 7 8443 (by exact Nat.le_refl _) (by simp) ?_
   simp only[zX,Nat.reduceShiftRight,Nat.reduceMod,Nat.reduceLT,Nat.reduceMul,Nat.reduceSub,Int.reduceToNat,Int.reduceNeg,Int.reduceLT,Int.reduceLE,Int.reduceEq,Nat.reduceEqDiff,Nat.reduceAdd,Nat.reduceLeDiff,reduceIte,reduceCtorEq,Nat.reduceBEq,i64,bV,iD,bD,List.cons_append,List.nil_append,List.map_cons,List.map_nil,MPl.v,MPl.cells,rsM,Gl.d_mk,Nd.d_eq nd,Re.cells_eq nd.re]
   refine callWp_mono (hen _) (fun v s' hv=>?_); obtain⟨rfl,rfl⟩:=hv
   simp only[zX,Nat.reduceShiftRight,Nat.reduceMod,Nat.reduceLT,Nat.reduceMul,Nat.reduceSub,Int.reduceToNat,Int.reduceNeg,Int.reduceLT,Int.reduceLE,Int.reduceEq,Nat.reduceEqDiff,Nat.reduceAdd,Nat.reduceLeDiff,reduceIte,reduceCtorEq,Nat.reduceBEq,i64,bV,iD,bD,List.cons_append,List.nil_append,List.map_cons,List.map_nil,MPl.v,MPl.cells,rsM,Bool.not_false]
   exact⟨hall1,rfl⟩
  | true =>
   rw[if_pos rfl] at hx
   obtain⟨e5,e6⟩:=e4 rfl
   have hrnd:RndOK m1 nd n env ⟨pat,pcaps,next⟩:=by
    unfold Mm.enter at he
    cases hd:m.describe ⟨pat,pcaps,.mk 1 (some nd) n at_ env next⟩ with
    | none=>rw[hd] at he; cases he
    | some b =>
     obtain⟨_,kd',nd',n',at',env',nx',hh,q1,q2,q3,q4,q5,q6,_⟩:=describe_inv hd
     simp only[Gl.mk.injEq,Option.some.injEq] at hh
     obtain⟨rfl,rfl,rfl,rfl,rfl,rfl⟩:=hh
     rw[if_pos rfl] at q3
     exact⟨by omega,by omega,fit16_I64 q3,fit32_I64 q6,fit16_I64 q1,⟨by show _≤pat; omega,by show pat≤_; omega⟩,e6,by omega,by rw[e3]; exact hK.2⟩
   have hst:=fun ext=>call_mm (mmround_ok m1 nd n at_ env next ⟨pat,pcaps,next⟩ hrnd hx) rfl rfl rfl ext
   obtain⟨m2,p2,ok2⟩:=x
   have hall2:=mm_all m2
   unfold Mm.objs at hst
   simp only[i64,bV,iD,bD,List.cons_append,List.nil_append,List.map_cons,List.map_nil,MPl.v,MPl.cells,rsM,Gl.d_mk,Nd.d_eq nd,Re.cells_eq nd.re] at hst
   unfold Mm.objs
   refine fn_ok Try.func69 rfl Try.ntmps69 Try.results69 rfl 7 8443 (by exact Nat.le_refl _) (by simp) ?_
   simp only[zX,Nat.reduceShiftRight,Nat.reduceMod,Nat.reduceLT,Nat.reduceMul,Nat.reduceSub,Int.reduceToNat,Int.reduceNeg,Int.reduceLT,Int.reduceLE,Int.reduceEq,Nat.reduceEqDiff,Nat.reduceAdd,Nat.reduceLeDiff,reduceIte,reduceCtorEq,Nat.reduceBEq,i64,bV,iD,bD,List.cons_append,List.nil_append,List.map_cons,List.map_nil,MPl.v,MPl.cells,rsM,Gl.d_mk,Nd.d_eq nd,Re.cells_eq nd.re]
   refine callWp_mono (hen _) (fun v s' hv=>?_); obtain⟨rfl,rfl⟩:=hv
   simp only[zX,Nat.reduceShiftRight,Nat.reduceMod,Nat.reduceLT,Nat.reduceMul,Nat.reduceSub,Int.reduceToNat,Int.reduceNeg,Int.reduceLT,Int.reduceLE,Int.reduceEq,Nat.reduceEqDiff,Nat.reduceAdd,Nat.reduceLeDiff,reduceIte,reduceCtorEq,Nat.reduceBEq,i64,bV,iD,bD,List.cons_append,List.nil_append,List.map_cons,List.map_nil,MPl.v,MPl.cells,rsM,Bool.not_true]
   refine callWp_mono (hst _) (fun v s' hv=>?_); obtain⟨rfl,rfl⟩:=hv
   simp only[zX,Nat.reduceShiftRight,Nat.reduceMod,Nat.reduceLT,Nat.reduceMul,Nat.reduceSub,Int.reduceToNat,Int.reduceNeg,Int.reduceLT,Int.reduceLE,Int.reduceEq,Nat.reduceEqDiff,Nat.reduceAdd,Nat.reduceLeDiff,reduceIte,reduceCtorEq,Nat.reduceBEq,i64,bV,iD,bD,List.cons_append,List.nil_append,List.map_cons,List.map_nil,MPl.v,MPl.cells,rsM]
   exact hall2
 rw[if_neg k1] at hx
 by_cases k2:kind=2
 ·rw[if_pos k2] at hx
  subst k2
  by_cases ca:pat=at_
  ·rw[if_pos ca] at hx
   cases hx
   unfold Mm.objs
   refine fn_ok Try.func69 rfl Try.ntmps69 Try.results69 rfl 7 8443 (by exact Nat.le_refl _) (by simp) ?_
   simp only[zX,Nat.reduceShiftRight,Nat.reduceMod,Nat.reduceLT,Nat.reduceMul,Nat.reduceSub,Int.reduceToNat,Int.reduceNeg,Int.reduceLT,Int.reduceLE,Int.reduceEq,Nat.reduceEqDiff,Nat.reduceAdd,Nat.reduceLeDiff,reduceIte,reduceCtorEq,Nat.reduceBEq,i64,bV,iD,bD,List.cons_append,List.nil_append,List.map_cons,List.map_nil,MPl.v,MPl.cells,rsM,Gl.d_mk,Nd.d_eq nd,Re.cells_eq nd.re]
   refine draw_c mix [] [] (by rfl) ?_
   simp only[zX,Nat.reduceShiftRight,Nat.reduceMod,Nat.reduceLT,Nat.reduceMul,Nat.reduceSub,Int.reduceToNat,Int.reduceNeg,Int.reduceLT,Int.reduceLE,Int.reduceEq,Nat.reduceEqDiff,Nat.reduceAdd,Nat.reduceLeDiff,reduceIte,reduceCtorEq,Nat.reduceBEq,i64,bV,iD,bD,List.cons_append,List.nil_append,List.map_cons,List.map_nil,MPl.v,MPl.cells,rsM,Gl.d_mk,Nd.d_eq nd,Re.cells_eq nd.re,ca]
   exact⟨hall,rfl⟩
  ·rw[if_neg ca] at hx
   cases hx
   unfold Mm.objs
   refine fn_ok Try.func69 rfl Try.ntmps69 Try.results69 rfl 7 8443 (by exact Nat.le_refl _) (by simp) ?_
   simp only[zX,Nat.reduceShiftRight,Nat.reduceMod,Nat.reduceLT,Nat.reduceMul,Nat.reduceSub,Int.reduceToNat,Int.reduceNeg,Int.reduceLT,Int.reduceLE,Int.reduceEq,Nat.reduceEqDiff,Nat.reduceAdd,Nat.reduceLeDiff,reduceIte,reduceCtorEq,Nat.reduceBEq,i64,bV,iD,bD,List.cons_append,List.nil_append,List.map_cons,List.map_nil,MPl.v,MPl.cells,rsM,Gl.d_mk,Nd.d_eq nd,Re.cells_eq nd.re]
   refine draw_c mix [] [] (by rfl) ?_
   simp only[zX,Nat.reduceShiftRight,Nat.reduceMod,Nat.reduceLT,Nat.reduceMul,Nat.reduceSub,Int.reduceToNat,Int.reduceNeg,Int.reduceLT,Int.reduceLE,Int.reduceEq,Nat.reduceEqDiff,Nat.reduceAdd,Nat.reduceLeDiff,reduceIte,reduceCtorEq,Nat.reduceBEq,i64,bV,iD,bD,List.cons_append,List.nil_append,List.map_cons,List.map_nil,MPl.v,MPl.cells,rsM,Gl.d_mk,Nd.d_eq nd,Re.cells_eq nd.re,ca]
   refine draw_first Cln0.reserve ?_
   refine draw_c mix [] [(17,[9],[9]),(18,[7],[]),(19,[7],[7])] (by rfl) ?_
   simp only[zX,Nat.reduceShiftRight,Nat.reduceMod,Nat.reduceLT,Nat.reduceMul,Nat.reduceSub,Int.reduceToNat,Int.reduceNeg,Int.reduceLT,Int.reduceLE,Int.reduceEq,Nat.reduceEqDiff,Nat.reduceAdd,Nat.reduceLeDiff,reduceIte,reduceCtorEq,Nat.reduceBEq,i64,bV,iD,bD,List.cons_append,List.nil_append,List.map_cons,List.map_nil,MPl.v,MPl.cells,rsM,hole]
   exact hall
 ·rw[if_neg k2] at hx
  cases hx
theorem keys_inside {m m':Mm} {f:Frm} {n:Int} (hf:f.fit=true) (hx:m.inside f=some (m',n)) (h:m.keys):m'.keys:=by
 unfold Mm.inside at hx
 split at hx
 ·split at hx
  ·cases hx; exact h
  ·cases hx
 ·split at hx
  ·cases hx
  ·cases hx
   refine⟨h.1,fun p hp=>?_⟩
   rcases List.mem_append.1 hp with hp | hp
   ·exact h.2 p hp
   ·rw[List.mem_singleton.1 hp]; exact hf
theorem inside_stk {m m':Mm} {f:Frm} {n:Int} (hx:m.inside f=some (m',n)):m'.stk=m.stk:=by
 unfold Mm.inside at hx
 split at hx
 ·split at hx
  ·cases hx; rfl
  ·cases hx
 ·split at hx
  ·cases hx
  ·cases hx; rfl
theorem wf_push {m:Mm} {x:Ltr} (h:m.wf) (hx:∀b,x=.note b→b.fit=true):(m.push x).wf:=by
 refine⟨h.1,fun b hb=>?_⟩
 rcases List.mem_append.1 hb with hb | hb
 ·exact h.2 b (List.mem_of_mem_take hb)
 ·exact hx b (List.mem_singleton.1 hb).symm
theorem wf_enter {m m':Mm} {p:MPl} {ok:Bool} (hx:m.enter p=some (m',ok)) (h:m.wf):m'.wf:=by
 unfold Mm.enter at hx
 cases hd:m.describe p with
 | none=>rw[hd] at hx; cases hx
 | some b =>
  rw[hd] at hx
  simp only at hx
  split at hx
  ·cases hx; exact h
  ·split at hx
   ·cases hx; exact h
   ·cases hx
    exact wf_push (m:={ m with steps:=m.steps + 1 }) h fun b' hb=>by cases hb; exact describe_fit hd
theorem wf_clear {m:Mm} (n:Nat) (h:m.wf):(m.clear n).wf:=by
 refine⟨h.1,fun b hb=>?_⟩
 rcases List.mem_append.1 hb with hb | hb
 ·exact h.2 b (List.mem_of_mem_take hb)
 ·rcases List.mem_append.1 hb with hb | hb
  ·have:=List.eq_of_mem_replicate hb; cases this
  ·exact h.2 b (List.mem_of_mem_drop hb)
theorem wf_first {rec:RecM} (h:∀m base p x,m.wf→rec m base p=some x→x.1.wf) {m:Mm} {p:MPl} {stop:Int} {x:RsM} (hm:m.wf) (hx:firstM rec m p stop=some x):x.1.wf:=by
 unfold firstM at hx
 split at hx
 ·cases hx
 ·rename_i m1 p1 f h1
  split at hx
  ·cases hx
  ·cases hx
   have:=h { m with stop:=stop } _ _ _ hm h1
   exact wf_clear (m:={ m1 with stop:=m.stop }) _ this
theorem wf_alone {rec:RecM} (h:∀m base p x,m.wf→rec m base p=some x→x.1.wf) {m:Mm} {p:MPl} {part:Gl} {x:RsM} (hm:m.wf) (hx:aloneM rec m p part=some x):x.1.wf:=by
 unfold aloneM at hx
 split at hx
 ·cases hx
 ·rename_i m1 p1 f h1
  cases hx
  have:=wf_first h hm h1
  exact this
theorem wf_round {m:Mm} {nd:Nd} {n env:Int} {p:MPl} {x:RsM} (hm:m.wf) (hf:∀a,a=p.at_∨a=-1→(⟨env,nd.id,countedR nd.re n,a⟩:Frm).fit=true) (hx:roundM m nd n env p=some x):x.1.wf:=by
 unfold roundM at hx
 split at hx
 ·cases hx
 simp only at hx
 split at hx
 ·cases hx; exact hm
 split at hx
 ·cases hx
 rename_i y hin
 have h1:y.1.wf:=by
  obtain⟨m1,ev⟩:=y
  refine⟨keys_inside (hf _ ?_) hin hm.1,?_⟩
  ·split
   ·exact .inl rfl
   ·exact .inr rfl
  ·rw[inside_stk hin]
   exact hm.2
 split at hx
 ·cases hx; exact h1
 ·split at hx
  ·cases hx; exact wf_push h1 fun b hb=>by cases hb
  ·cases hx; exact wf_push h1 fun b hb=>by cases hb
theorem wf_alts {p:MPl} {env:Int}:∀(l:List Nd) (m:Mm),m.wf→(l.foldr (fun (y:Nd) (m:Mm)=>m.push (.place (goM p 0 y 0 0 env))) m).wf
 | [],m,h=>h
 | k::l,m,h=>wf_push (wf_alts l m h) fun b hb=>by cases hb
theorem wf_begin {rec:RecM} {m:Mm} {nd:Nd} {env:Int} {p:MPl} {x:RsM} (hm:m.wf) (hx:beginM rec m nd env p=some x):x.1.wf:=by
 unfold beginM at hx
 simp only at hx
 split at hx
 ·cases hx; exact hm
 split at hx
 ·cases hx; exact hm
 split at hx
 ·cases hx
  rw[altM_eq]
  exact wf_alts _ _ hm
 split at hx
 ·cases hx; exact hm
 ·cases hx
theorem wf_adv {rec:RecM} (h:∀m base p x,m.wf→rec m base p=some x→x.1.wf) {m:Mm} {p:MPl} {x:RsM} (hm:m.wf) (hx:advM rec m p=some x):x.1.wf:=by
 unfold advM at hx
 by_cases hg:m.good p
 case neg=>rw[if_pos hg] at hx; cases hx
 rw[if_neg (fun h=>h hg)] at hx
 obtain⟨_,⟨g5,g6⟩,g7⟩:=hg
 obtain⟨pat,pcaps,ptodo⟩:=p
 cases ptodo with
 | nil=>cases hx
 | mk kind node n at_ env next =>
 simp only at hx g5 g6
 split at hx
 ·cases hx
 cases node with
 | none=>cases hx
 | some nd =>
 simp only at hx
 split at hx
 ·cases hx
 split at hx
 ·split at hx
  ·unfold repM at hx
   split at hx
   ·exact wf_alone h hm hx
   ·cases hx; exact hm
  ·split at hx
   ·cases hx
   ·rename_i m1 ok he
    have h1:=wf_enter he hm
    split at hx
    ·exact wf_begin h1 hx
    ·cases hx; exact h1
 ·split at hx
  ·rename_i hk1
   subst hk1
   split at hx
   ·cases hx
   ·rename_i m1 ok he
    have h1:=wf_enter he hm
    split at hx
    ·refine wf_round h1 (fun a ha=>?_) hx
     unfold Mm.enter at he
     cases hd:m.describe ⟨pat,pcaps,.mk 1 (some nd) n at_ env next⟩ with
     | none=>rw[hd] at he; cases he
     | some b =>
      obtain⟨_,kd',nd',n',at',env',nx',hh,q1,q2,q3,q4,q5,q6,_⟩:=describe_inv hd
      simp only[Gl.mk.injEq,Option.some.injEq] at hh
      obtain⟨rfl,rfl,rfl,rfl,rfl,rfl⟩:=hh
      rw[if_pos rfl] at q3
      refine frm_fit (fit32_I64 q6) (fit16_I64 q1) (fit16_I64 q3) ?_
      rcases ha with rfl | rfl
      ·exact⟨by show _≤_; omega,by show _≤_; omega⟩
      ·exact⟨by decide,by decide⟩
    ·cases hx; exact h1
  ·split at hx
   ·split at hx
    ·cases hx; exact hm
    ·cases hx; exact hm
   ·cases hx
theorem wf_fail {m:Mm} {b:Beg} (h:m.wf) (hb:b.fit=true):(m.fail b).wf:=by
 unfold Mm.fail
 split
 ·exact h
 ·refine⟨⟨fun x hx=>?_,h.1.2⟩,h.2⟩
  rcases List.mem_append.1 hx with hx | hx
  ·exact h.1.1 x hx
  ·rw[List.mem_singleton.1 hx]; exact hb
theorem wf_srch:∀(k:Nat) (out:Bool) (m:Mm) (base:Nat) (p:MPl) (alive:Bool) (x:RsM),m.wf→srchM k out m base p alive=some x→x.1.wf
 | 0,_,_,_,_,_,_,_,hx=>by cases hx
 | k + 1,out,m,base,p,alive,x,hm,hx=>by
  simp only[srchM] at hx
  split at hx
  ·cases hx; exact hm
  split at hx
  ·split at hx
   ·cases hx
   ·rename_i m1 p1 a1 h1
    exact wf_srch k false m1 base p1 a1 x (wf_adv (fun m base p x hm h=>wf_srch k true m base p true x hm h) hm h1) hx
  split at hx
  ·cases hx; exact hm
  split at hx
  ·cases hx; exact hm
  split at hx
  ·cases hx
  split at hx
  ·cases hx
  ·rename_i b hb
   exact wf_srch k false (m.pop.fail b) base p false x (wf_fail (m:=m.pop) hm (hm.2 b (List.mem_of_getElem? hb))) hx
  ·rename_i last _
   exact wf_srch k true m.pop base last true x hm hx
end Go.Proofs.Ytpppfpaalcbggaa
