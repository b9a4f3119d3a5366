/- A part of the proof (MM10C). -/
import Derived.Test.YtpppfpaalcbggaaML7
set_option linter.unusedSimpArgs false
set_option linter.unusedVariables false
set_option maxRecDepth 100000
set_option maxHeartbeats 80000000
namespace Go.Proofs.Ytpppfpaalcbggaa
open Go.VL
theorem mmround_greedy (m:Mm) (nd:Nd) (n at_ env:Int) (nx:Gl) (p:MPl) (hok:RndOK m nd n env p) (hstop:¬(nd.re.mn≤n∧0≤nd.re.mx∧nd.re.mx≤n)) (hlt:¬n < nd.re.mn) (hmo:¬nd.re.mode=1) {x:RsM} (hx:roundM m nd n env p=some x) :
  callWp Try.prog 89 [.rf 0 0 0 0,.d (Gl.mk 1 (some nd) n at_ env nx).d,p.v] m.objs fun v s=>v=rsM x.2.1 x.2.2∧s=x.1.objs:=by
 obtain⟨o1,o2,o3,o4,o5,o6,o7,o8,o9⟩:=hok
 unfold roundM at hx
 obtain⟨kid,l,hk⟩:∃kid l,nd.kids=kid::l:=by
  cases hh:nd.kids with
  | nil=>rw[hh] at hx; cases hx
  | cons y l=>exact⟨y,l,rfl⟩
 rw[hk] at hx
 simp only at hx
 have hl0:(0:Int) < (nd.kids.length:Int):=by rw[hk,List.length_cons]; omega
 have hk0:nd.kids[0]?=some kid:=by rw[hk]; rfl
 have hall:=mm_all m
 have w1:IntKind.i64.wrap (n + 1)=n + 1:=w64 _ (by omega)
 rw[if_neg hstop] at hx
 cases hin:m.inside ⟨env,nd.id,countedR nd.re n,if nd.loop=true∧nd.re.mn≤n then p.at_ else -1⟩ with
 | none=>rw[hin] at hx; cases hx
 | some y =>
 obtain⟨m1,ev⟩:=y
 rw[hin] at hx
 simp only at hx
 obtain⟨u,hu⟩:∃u,(if nd.loop=true∧nd.re.mn≤n then p.at_ else (-1:Int))=u:=⟨_,rfl⟩
 have hui:I64 u:=by
  rw[← hu]
  split
  ·exact o6
  ·exact⟨by decide,by decide⟩
 rw[hu] at hin
 have hins:=fun ext K hk=>callF_mm (K:=K) (inside_ok m m1 _ ev (frm_fit o4 o5 o3 hui) hin o9) rfl rfl rfl ext hk
 have htop:m1.top=m.top∧m1.stk=m.stk:=by
  unfold Mm.inside at hin
  split at hin
  ·split at hin
   ·cases hin; exact⟨rfl,rfl⟩
   ·cases hin
  ·split at hin
   ·cases hin
   ·cases hin; exact⟨rfl,rfl⟩
 have hall1:=mm_all m1
 rw[← htop.1] at o8
 rw[← htop.1,← htop.2] at o7
 unfold Mm.objs at hins
 simp only[i64,bV,iD,bD,List.cons_append,List.nil_append,List.map_cons,List.map_nil,MPl.v,MPl.cells,rsM,Frm.v,Frm.vals,kI] at hins
 rw[if_neg hlt,if_neg hlt] at hx
 have hmn:nd.re.mn≤n:=by omega
 have hm:(nd.re.mn≤n)=True:=eq_true hmn
 have hl:(n < nd.re.mn)=False:=eq_false hlt
 have h45:((0≤nd.re.mx)=False∧(nd.re.mx≤n)=True)∨((0≤nd.re.mx)=True∧(nd.re.mx≤n)=False):=by
  by_cases h:0≤nd.re.mx
  ·exact .inr ⟨eq_true h,eq_false fun h'=>hstop ⟨hmn,h,h'⟩⟩
  ·exact .inl ⟨eq_false h,eq_true (by omega)⟩
 have hlu:(nd.loop=true∧u=p.at_)∨(nd.loop=false∧u=-1):=by
  cases hlp:nd.loop
  ·exact .inr ⟨rfl,by rw[← hu,if_neg (fun h=>by rw[hlp] at h; cases h.1)]⟩
  ·exact .inl ⟨rfl,by rw[← hu,if_pos ⟨hlp,hmn⟩]⟩
 clear hu
 rw[if_neg hmo] at hx
 cases hx
 obtain⟨m2,hm2⟩:∃m2,m1.push (.place p)=m2:=⟨_,rfl⟩
 have e:=mm_push (m:=m1) (.place p)
 have hall2:=mm_all m2
 rw[hm2] at e ⊢
 simp only[stM,i64,bV,iD,bD,List.cons_append,List.nil_append,List.map_cons,List.map_nil,MPl.v,MPl.cells,rsM,Beg.cs,Beg.vals,kI] at e
 rcases h45 with ⟨h4,h5⟩ | ⟨h4,h5⟩ <;> rcases hlu with ⟨hlp,rfl⟩ | ⟨hlp,rfl⟩
 all_goals
  unfold Mm.objs
  rw[Gl.d_mk,Nd.d_eq nd]
  refine fn_ok Try.func89 rfl Try.ntmps89 Try.results89 rfl 7 8167 (by exact Nat.le_refl _) (by simp) ?_
  simp only[zX,Nat.reduceShiftRight,Nat.reduceMod,Nat.reduceLT,Nat.reduceMul,Nat.reduceSub,Int.reduceToNat,Int.reduceNeg,Int.reduceLT,Int.reduceLE,Int.reduceEq,Nat.reduceEqDiff,Nat.reduceAdd,Nat.reduceLeDiff,reduceIte,reduceCtorEq,Nat.reduceBEq,i64,bV,iD,bD,List.cons_append,List.nil_append,List.map_cons,List.map_nil,MPl.v,MPl.cells,rsM]
  refine draw_first Cln0.reserve ?_
  refine draw_c mix [] [(18,[9],[9]),(19,[9],[9])] (by rfl) ?_
  simp only[zX,Nat.reduceShiftRight,Nat.reduceMod,Nat.reduceLT,Nat.reduceMul,Nat.reduceSub,Int.reduceToNat,Int.reduceNeg,Int.reduceLT,Int.reduceLE,Int.reduceEq,Nat.reduceEqDiff,Nat.reduceAdd,Nat.reduceLeDiff,reduceIte,reduceCtorEq,Nat.reduceBEq,i64,bV,iD,bD,List.cons_append,List.nil_append,List.map_cons,List.map_nil,MPl.v,MPl.cells,rsM,hole]
  refine callC_pure (counted_ok nd.re n) rfl rfl ?_
  simp only[zX,Nat.reduceShiftRight,Nat.reduceMod,Nat.reduceLT,Nat.reduceMul,Nat.reduceSub,Int.reduceToNat,Int.reduceNeg,Int.reduceLT,Int.reduceLE,Int.reduceEq,Nat.reduceEqDiff,Nat.reduceAdd,Nat.reduceLeDiff,reduceIte,reduceCtorEq,Nat.reduceBEq,i64,bV,iD,bD,List.cons_append,List.nil_append,List.map_cons,List.map_nil,MPl.v,MPl.cells,rsM]
  refine draw_c mix [] [] (by rfl) ?_
  simp only[zX,Nat.reduceShiftRight,Nat.reduceMod,Nat.reduceLT,Nat.reduceMul,Nat.reduceSub,Int.reduceToNat,Int.reduceNeg,Int.reduceLT,Int.reduceLE,Int.reduceEq,Nat.reduceEqDiff,Nat.reduceAdd,Nat.reduceLeDiff,reduceIte,reduceCtorEq,Nat.reduceBEq,i64,bV,iD,bD,List.cons_append,List.nil_append,List.map_cons,List.map_nil,MPl.v,MPl.cells,rsM,hlp,hm,Re.cells_eq nd.re,ge_iff_le,decide_true,decide_false]
  refine draw_c mix [] [] (by rfl) ?_
  simp only[zX,Nat.reduceShiftRight,Nat.reduceMod,Nat.reduceLT,Nat.reduceMul,Nat.reduceSub,Int.reduceToNat,Int.reduceNeg,Int.reduceLT,Int.reduceLE,Int.reduceEq,Nat.reduceEqDiff,Nat.reduceAdd,Nat.reduceLeDiff,reduceIte,reduceCtorEq,Nat.reduceBEq,i64,bV,iD,bD,List.cons_append,List.nil_append,List.map_cons,List.map_nil,MPl.v,MPl.cells,rsM,hlp,hm,h4,h5,Re.cells_eq nd.re,ge_iff_le,decide_true,decide_false]
  refine draw_first (Cln0.reserve.trans Cln0.reserve) ?_
  refine draw_c mix [] [(2,[10],[10]),(3,[11],[11]),(4,[10],[10]),(5,[11],[11])] (by rfl) ?_
  simp only[zX,Nat.reduceShiftRight,Nat.reduceMod,Nat.reduceLT,Nat.reduceMul,Nat.reduceSub,Int.reduceToNat,Int.reduceNeg,Int.reduceLT,Int.reduceLE,Int.reduceEq,Nat.reduceEqDiff,Nat.reduceAdd,Nat.reduceLeDiff,reduceIte,reduceCtorEq,Nat.reduceBEq,i64,bV,iD,bD,List.cons_append,List.nil_append,List.map_cons,List.map_nil,MPl.v,MPl.cells,rsM,hole]
  refine draw_first Cln0.reserve ?_
  refine draw_c mix [] [(18,[12],[12])] (by rfl) ?_
  simp only[zX,Nat.reduceShiftRight,Nat.reduceMod,Nat.reduceLT,Nat.reduceMul,Nat.reduceSub,Int.reduceToNat,Int.reduceNeg,Int.reduceLT,Int.reduceLE,Int.reduceEq,Nat.reduceEqDiff,Nat.reduceAdd,Nat.reduceLeDiff,reduceIte,reduceCtorEq,Nat.reduceBEq,i64,bV,iD,bD,List.cons_append,List.nil_append,List.map_cons,List.map_nil,MPl.v,MPl.cells,rsM,hole,w1]
  refine draw_c mix [] [] (by rfl) ?_
  simp only[zX,Nat.reduceShiftRight,Nat.reduceMod,Nat.reduceLT,Nat.reduceMul,Nat.reduceSub,Int.reduceToNat,Int.reduceNeg,Int.reduceLT,Int.reduceLE,Int.reduceEq,Nat.reduceEqDiff,Nat.reduceAdd,Nat.reduceLeDiff,reduceIte,reduceCtorEq,Nat.reduceBEq,i64,bV,iD,bD,List.cons_append,List.nil_append,List.map_cons,List.map_nil,MPl.v,MPl.cells,rsM,hl,Re.cells_eq nd.re,decide_true,decide_false]
  refine draw_first Cln0.reserve ?_
  refine draw_c mix [] [(11,[0,1,2,3,4,5,6],[0,1,2,3,4,5,6]),(14,[13],[13]),(15,[11],[]),(16,[11],[11])] (by rfl) ?_
  simp only[zX,Nat.reduceShiftRight,Nat.reduceMod,Nat.reduceLT,Nat.reduceMul,Nat.reduceSub,Int.reduceToNat,Int.reduceNeg,Int.reduceLT,Int.reduceLE,Int.reduceEq,Nat.reduceEqDiff,Nat.reduceAdd,Nat.reduceLeDiff,reduceIte,reduceCtorEq,Nat.reduceBEq,i64,bV,iD,bD,List.cons_append,List.nil_append,List.map_cons,List.map_nil,MPl.v,MPl.cells,rsM,hole,hl0,hk0,List.length_map,List.getElem?_map,Option.map_some]
  refine hins _ _ ?_
  simp only[zX,Nat.reduceShiftRight,Nat.reduceMod,Nat.reduceLT,Nat.reduceMul,Nat.reduceSub,Int.reduceToNat,Int.reduceNeg,Int.reduceLT,Int.reduceLE,Int.reduceEq,Nat.reduceEqDiff,Nat.reduceAdd,Nat.reduceLeDiff,reduceIte,reduceCtorEq,Nat.reduceBEq,i64,bV,iD,bD,List.cons_append,List.nil_append,List.map_cons,List.map_nil,MPl.v,MPl.cells,rsM]
  refine draw_c mix [] [] (by rfl) ?_
  simp only[zX,Nat.reduceShiftRight,Nat.reduceMod,Nat.reduceLT,Nat.reduceMul,Nat.reduceSub,Int.reduceToNat,Int.reduceNeg,Int.reduceLT,Int.reduceLE,Int.reduceEq,Nat.reduceEqDiff,Nat.reduceAdd,Nat.reduceLeDiff,reduceIte,reduceCtorEq,Nat.reduceBEq,i64,bV,iD,bD,List.cons_append,List.nil_append,List.map_cons,List.map_nil,MPl.v,MPl.cells,rsM,hl,Re.cells_eq nd.re,decide_true,decide_false]
  simp only[zX,Nat.reduceShiftRight,Nat.reduceMod,Nat.reduceLT,Nat.reduceMul,Nat.reduceSub,Int.reduceToNat,Int.reduceNeg,Int.reduceLT,Int.reduceLE,Int.reduceEq,Nat.reduceEqDiff,Nat.reduceAdd,Nat.reduceLeDiff,reduceIte,reduceCtorEq,Nat.reduceBEq,i64,bV,iD,bD,List.cons_append,List.nil_append,List.map_cons,List.map_nil,MPl.v,MPl.cells,rsM,hmo]
  refine draw_first (Cln0.tell [12,13] (by simp [cleanS,killO,kill1,cleanV,frzV,frzV.go,frzD,failE_clean,frmE_clean,stM_comp]; rfl)) ?_
  refine draw_c mix [] [(2,[0],[]),(3,[0],[]),(4,[0],[]),(8,[6],[6]),(9,[0],[]),(10,[0],[]),(11,[0],[0])] (by rfl) ?_
  simp only[zX,Nat.reduceShiftRight,Nat.reduceMod,Nat.reduceLT,Nat.reduceMul,Nat.reduceSub,Int.reduceToNat,Int.reduceNeg,Int.reduceLT,Int.reduceLE,Int.reduceEq,Nat.reduceEqDiff,Nat.reduceAdd,Nat.reduceLeDiff,reduceIte,reduceCtorEq,Nat.reduceBEq,i64,bV,iD,bD,List.cons_append,List.nil_append,List.map_cons,List.map_nil,MPl.v,MPl.cells,rsM,Option.getD_some]
  refine⟨rfl,by simp,⟨by omega,by omega⟩,?_⟩
  try simp only[Gl.d_mk,Nd.d_eq nd,Re.cells_eq nd.re,hlp,hmo,iD,bD] at e
  try simp only[Gl.d_mk,Nd.d_eq nd,Re.cells_eq nd.re,hlp,hmo,iD,bD,true_and]
  rw[e]
  subst hm2
  exact⟨hall2,rfl⟩
end Go.Proofs.Ytpppfpaalcbggaa
