/- A part of the proof (MM10). -/
import Derived.Test.YtpppfpaalcbggaaML6
set_option linter.unusedSimpArgs false
set_option linter.unusedVariables false
set_option maxRecDepth 100000
set_option maxHeartbeats 80000000
namespace Go.Proofs.Ytpppfpaalcbggaa
open Go.VL
theorem failE_clean (n:Nat) (s:List VL.Obj) (l:List Beg):((failE l).map fun c=>c.map (cleanV n s))=failE l:=rows_clean n s _
theorem frmE_clean (n:Nat) (s:List VL.Obj) (l:List (Frm × Int)):((frmE l).map fun c=>c.map (cleanV n s))=frmE l:=rows_clean n s _
theorem stM_comp (n:Nat) (s:List VL.Obj):((fun c=>List.map (cleanV n s) c) ∘ stM)=stM:=by
 funext x
 cases x <;> rfl
theorem mm_push {m:Mm} (x:Ltr):List.take m.top (m.stk.map stM)++[stM x]=(m.push x).stk.map stM:=by
 simp only[Mm.push,List.map_append,List.map_take]; rfl
theorem frm_fit {a b c d:Int} (ha:I64 a) (hb:I64 b) (hc:I64 c) (hd:I64 d):(⟨a,b,c,d⟩:Frm).fit=true:=by
 simp only[Frm.fit,wfI,wf64 ha,wf64 hb,wf64 hc,wf64 hd,Bool.and_self]
structure RndOK (m:Mm) (nd:Nd) (n env:Int) (p:MPl):Prop where
 n0:0≤n
 n1:n≤10000000000000
 cn:I64 (countedR nd.re n)
 env:I64 env
 id:I64 nd.id
 at_:I64 p.at_
 top:m.top≤m.stk.length
 lid:m.top≤1200000000001
 frm:∀p∈m.frames,p.1.fit=true
theorem mmround_stop (m:Mm) (nd:Nd) (n at_ env:Int) (nx:Gl) (p:MPl) (hok:RndOK m nd n env p) (hstop:nd.re.mn≤n∧0≤nd.re.mx∧nd.re.mx≤n) {x:RsM} (hx:roundM m nd n env p=some x) :
  callWp Try.prog 89 [.rf 0 0 0 0,.d (Gl.mk 1 (some nd) n at_ env nx).d,p.v] m.objs fun v s=>v=rsM x.2.1 x.2.2∧s=x.1.objs:=by
 obtain⟨o1,o2,o3,o4,o5,o6,o7,o8,o9⟩:=hok
 unfold roundM at hx
 obtain⟨kid,l,hk⟩:∃kid l,nd.kids=kid::l:=by
  cases hh:nd.kids with
  | nil=>rw[hh] at hx; cases hx
  | cons y l=>exact⟨y,l,rfl⟩
 rw[hk] at hx
 simp only at hx
 have hl0:(0:Int) < (nd.kids.length:Int):=by rw[hk,List.length_cons]; omega
 have hk0:nd.kids[0]?=some kid:=by rw[hk]; rfl
 have hall:=mm_all m
 have w1:IntKind.i64.wrap (n + 1)=n + 1:=w64 _ (by omega)
 rw[if_pos hstop] at hx
 cases hx
 have hm:(nd.re.mn≤n)=True:=eq_true hstop.1
 cases hlp:nd.loop
 all_goals
  unfold Mm.objs
  rw[Gl.d_mk,Nd.d_eq nd]
  refine fn_ok Try.func89 rfl Try.ntmps89 Try.results89 rfl 7 8167 (by exact Nat.le_refl _) (by simp) ?_
  simp only[zX,Nat.reduceShiftRight,Nat.reduceMod,Nat.reduceLT,Nat.reduceMul,Nat.reduceSub,Int.reduceToNat,Int.reduceNeg,Int.reduceLT,Int.reduceLE,Int.reduceEq,Nat.reduceEqDiff,Nat.reduceAdd,Nat.reduceLeDiff,reduceIte,reduceCtorEq,Nat.reduceBEq,i64,bV,iD,bD,List.cons_append,List.nil_append,List.map_cons,List.map_nil,MPl.v,MPl.cells,rsM]
  refine draw_first Cln0.reserve ?_
  refine draw_c mix [] [(18,[9],[9]),(19,[9],[9])] (by rfl) ?_
  simp only[zX,Nat.reduceShiftRight,Nat.reduceMod,Nat.reduceLT,Nat.reduceMul,Nat.reduceSub,Int.reduceToNat,Int.reduceNeg,Int.reduceLT,Int.reduceLE,Int.reduceEq,Nat.reduceEqDiff,Nat.reduceAdd,Nat.reduceLeDiff,reduceIte,reduceCtorEq,Nat.reduceBEq,i64,bV,iD,bD,List.cons_append,List.nil_append,List.map_cons,List.map_nil,MPl.v,MPl.cells,rsM,hole]
  refine callC_pure (counted_ok nd.re n) rfl rfl ?_
  simp only[zX,Nat.reduceShiftRight,Nat.reduceMod,Nat.reduceLT,Nat.reduceMul,Nat.reduceSub,Int.reduceToNat,Int.reduceNeg,Int.reduceLT,Int.reduceLE,Int.reduceEq,Nat.reduceEqDiff,Nat.reduceAdd,Nat.reduceLeDiff,reduceIte,reduceCtorEq,Nat.reduceBEq,i64,bV,iD,bD,List.cons_append,List.nil_append,List.map_cons,List.map_nil,MPl.v,MPl.cells,rsM]
  refine draw_c mix [] [] (by rfl) ?_
  simp only[zX,Nat.reduceShiftRight,Nat.reduceMod,Nat.reduceLT,Nat.reduceMul,Nat.reduceSub,Int.reduceToNat,Int.reduceNeg,Int.reduceLT,Int.reduceLE,Int.reduceEq,Nat.reduceEqDiff,Nat.reduceAdd,Nat.reduceLeDiff,reduceIte,reduceCtorEq,Nat.reduceBEq,i64,bV,iD,bD,List.cons_append,List.nil_append,List.map_cons,List.map_nil,MPl.v,MPl.cells,rsM,hlp,hm,Re.cells_eq nd.re,ge_iff_le,decide_true,decide_false]
  refine draw_c mix [] [] (by rfl) ?_
  simp only[zX,Nat.reduceShiftRight,Nat.reduceMod,Nat.reduceLT,Nat.reduceMul,Nat.reduceSub,Int.reduceToNat,Int.reduceNeg,Int.reduceLT,Int.reduceLE,Int.reduceEq,Nat.reduceEqDiff,Nat.reduceAdd,Nat.reduceLeDiff,reduceIte,reduceCtorEq,Nat.reduceBEq,i64,bV,iD,bD,List.cons_append,List.nil_append,List.map_cons,List.map_nil,MPl.v,MPl.cells,rsM,hlp,hm,hstop.2.1,hstop.2.2,Re.cells_eq nd.re,ge_iff_le,decide_true,decide_false]
  exact hall
theorem mmround_more (m:Mm) (nd:Nd) (n at_ env:Int) (nx:Gl) (p:MPl) (hok:RndOK m nd n env p) (hstop:¬(nd.re.mn≤n∧0≤nd.re.mx∧nd.re.mx≤n)) (hlt:n < nd.re.mn) {x:RsM} (hx:roundM m nd n env p=some x) :
  callWp Try.prog 89 [.rf 0 0 0 0,.d (Gl.mk 1 (some nd) n at_ env nx).d,p.v] m.objs fun v s=>v=rsM x.2.1 x.2.2∧s=x.1.objs:=by
 obtain⟨o1,o2,o3,o4,o5,o6,o7,o8,o9⟩:=hok
 unfold roundM at hx
 obtain⟨kid,l,hk⟩:∃kid l,nd.kids=kid::l:=by
  cases hh:nd.kids with
  | nil=>rw[hh] at hx; cases hx
  | cons y l=>exact⟨y,l,rfl⟩
 rw[hk] at hx
 simp only at hx
 have hl0:(0:Int) < (nd.kids.length:Int):=by rw[hk,List.length_cons]; omega
 have hk0:nd.kids[0]?=some kid:=by rw[hk]; rfl
 have hall:=mm_all m
 have w1:IntKind.i64.wrap (n + 1)=n + 1:=w64 _ (by omega)
 rw[if_neg hstop] at hx
 cases hin:m.inside ⟨env,nd.id,countedR nd.re n,if nd.loop=true∧nd.re.mn≤n then p.at_ else -1⟩ with
 | none=>rw[hin] at hx; cases hx
 | some y =>
 obtain⟨m1,ev⟩:=y
 rw[hin] at hx
 simp only at hx
 obtain⟨u,hu⟩:∃u,(if nd.loop=true∧nd.re.mn≤n then p.at_ else (-1:Int))=u:=⟨_,rfl⟩
 have hui:I64 u:=by
  rw[← hu]
  split
  ·exact o6
  ·exact⟨by decide,by decide⟩
 rw[hu] at hin
 have hins:=fun ext K hk=>callF_mm (K:=K) (inside_ok m m1 _ ev (frm_fit o4 o5 o3 hui) hin o9) rfl rfl rfl ext hk
 have htop:m1.top=m.top∧m1.stk=m.stk:=by
  unfold Mm.inside at hin
  split at hin
  ·split at hin
   ·cases hin; exact⟨rfl,rfl⟩
   ·cases hin
  ·split at hin
   ·cases hin
   ·cases hin; exact⟨rfl,rfl⟩
 have hall1:=mm_all m1
 rw[← htop.1] at o8
 rw[← htop.1,← htop.2] at o7
 unfold Mm.objs at hins
 simp only[i64,bV,iD,bD,List.cons_append,List.nil_append,List.map_cons,List.map_nil,MPl.v,MPl.cells,rsM,Frm.v,Frm.vals,kI] at hins
 rw[if_pos hlt,if_pos hlt] at hx
 cases hx
 have hm:(nd.re.mn≤n)=False:=eq_false (by omega)
 have hl:(n < nd.re.mn)=True:=eq_true hlt
 have hue:u=-1:=by rw[← hu,if_neg (fun h=>by omega)]
 subst hue
 cases hlp:nd.loop
 all_goals
  unfold Mm.objs
  rw[Gl.d_mk,Nd.d_eq nd]
  refine fn_ok Try.func89 rfl Try.ntmps89 Try.results89 rfl 7 8167 (by exact Nat.le_refl _) (by simp) ?_
  simp only[zX,Nat.reduceShiftRight,Nat.reduceMod,Nat.reduceLT,Nat.reduceMul,Nat.reduceSub,Int.reduceToNat,Int.reduceNeg,Int.reduceLT,Int.reduceLE,Int.reduceEq,Nat.reduceEqDiff,Nat.reduceAdd,Nat.reduceLeDiff,reduceIte,reduceCtorEq,Nat.reduceBEq,i64,bV,iD,bD,List.cons_append,List.nil_append,List.map_cons,List.map_nil,MPl.v,MPl.cells,rsM]
  refine draw_first Cln0.reserve ?_
  refine draw_c mix [] [(18,[9],[9]),(19,[9],[9])] (by rfl) ?_
  simp only[zX,Nat.reduceShiftRight,Nat.reduceMod,Nat.reduceLT,Nat.reduceMul,Nat.reduceSub,Int.reduceToNat,Int.reduceNeg,Int.reduceLT,Int.reduceLE,Int.reduceEq,Nat.reduceEqDiff,Nat.reduceAdd,Nat.reduceLeDiff,reduceIte,reduceCtorEq,Nat.reduceBEq,i64,bV,iD,bD,List.cons_append,List.nil_append,List.map_cons,List.map_nil,MPl.v,MPl.cells,rsM,hole]
  refine callC_pure (counted_ok nd.re n) rfl rfl ?_
  simp only[zX,Nat.reduceShiftRight,Nat.reduceMod,Nat.reduceLT,Nat.reduceMul,Nat.reduceSub,Int.reduceToNat,Int.reduceNeg,Int.reduceLT,Int.reduceLE,Int.reduceEq,Nat.reduceEqDiff,Nat.reduceAdd,Nat.reduceLeDiff,reduceIte,reduceCtorEq,Nat.reduceBEq,i64,bV,iD,bD,List.cons_append,List.nil_append,List.map_cons,List.map_nil,MPl.v,MPl.cells,rsM]
  refine draw_c mix [] [] (by rfl) ?_
  simp only[zX,Nat.reduceShiftRight,Nat.reduceMod,Nat.reduceLT,Nat.reduceMul,Nat.reduceSub,Int.reduceToNat,Int.reduceNeg,Int.reduceLT,Int.reduceLE,Int.reduceEq,Nat.reduceEqDiff,Nat.reduceAdd,Nat.reduceLeDiff,reduceIte,reduceCtorEq,Nat.reduceBEq,i64,bV,iD,bD,List.cons_append,List.nil_append,List.map_cons,List.map_nil,MPl.v,MPl.cells,rsM,hlp,hm,Re.cells_eq nd.re,ge_iff_le,decide_true,decide_false]
  refine draw_c mix [] [] (by rfl) ?_
  simp only[zX,Nat.reduceShiftRight,Nat.reduceMod,Nat.reduceLT,Nat.reduceMul,Nat.reduceSub,Int.reduceToNat,Int.reduceNeg,Int.reduceLT,Int.reduceLE,Int.reduceEq,Nat.reduceEqDiff,Nat.reduceAdd,Nat.reduceLeDiff,reduceIte,reduceCtorEq,Nat.reduceBEq,i64,bV,iD,bD,List.cons_append,List.nil_append,List.map_cons,List.map_nil,MPl.v,MPl.cells,rsM,hlp,hm,Re.cells_eq nd.re,ge_iff_le,decide_true,decide_false]
  refine draw_first (Cln0.reserve.trans Cln0.reserve) ?_
  refine draw_c mix [] [(2,[10],[10]),(3,[11],[11]),(4,[10],[10]),(5,[11],[11])] (by rfl) ?_
  simp only[zX,Nat.reduceShiftRight,Nat.reduceMod,Nat.reduceLT,Nat.reduceMul,Nat.reduceSub,Int.reduceToNat,Int.reduceNeg,Int.reduceLT,Int.reduceLE,Int.reduceEq,Nat.reduceEqDiff,Nat.reduceAdd,Nat.reduceLeDiff,reduceIte,reduceCtorEq,Nat.reduceBEq,i64,bV,iD,bD,List.cons_append,List.nil_append,List.map_cons,List.map_nil,MPl.v,MPl.cells,rsM,hole]
  refine draw_first Cln0.reserve ?_
  refine draw_c mix [] [(18,[12],[12])] (by rfl) ?_
  simp only[zX,Nat.reduceShiftRight,Nat.reduceMod,Nat.reduceLT,Nat.reduceMul,Nat.reduceSub,Int.reduceToNat,Int.reduceNeg,Int.reduceLT,Int.reduceLE,Int.reduceEq,Nat.reduceEqDiff,Nat.reduceAdd,Nat.reduceLeDiff,reduceIte,reduceCtorEq,Nat.reduceBEq,i64,bV,iD,bD,List.cons_append,List.nil_append,List.map_cons,List.map_nil,MPl.v,MPl.cells,rsM,hole,w1]
  refine draw_c mix [] [] (by rfl) ?_
  simp only[zX,Nat.reduceShiftRight,Nat.reduceMod,Nat.reduceLT,Nat.reduceMul,Nat.reduceSub,Int.reduceToNat,Int.reduceNeg,Int.reduceLT,Int.reduceLE,Int.reduceEq,Nat.reduceEqDiff,Nat.reduceAdd,Nat.reduceLeDiff,reduceIte,reduceCtorEq,Nat.reduceBEq,i64,bV,iD,bD,List.cons_append,List.nil_append,List.map_cons,List.map_nil,MPl.v,MPl.cells,rsM,hl,Re.cells_eq nd.re,decide_true,decide_false]
  refine draw_first Cln0.reserve ?_
  refine draw_c mix [] [(11,[0,1,2,3,4,5,6],[0,1,2,3,4,5,6]),(14,[13],[13]),(15,[11],[]),(16,[11],[11])] (by rfl) ?_
  simp only[zX,Nat.reduceShiftRight,Nat.reduceMod,Nat.reduceLT,Nat.reduceMul,Nat.reduceSub,Int.reduceToNat,Int.reduceNeg,Int.reduceLT,Int.reduceLE,Int.reduceEq,Nat.reduceEqDiff,Nat.reduceAdd,Nat.reduceLeDiff,reduceIte,reduceCtorEq,Nat.reduceBEq,i64,bV,iD,bD,List.cons_append,List.nil_append,List.map_cons,List.map_nil,MPl.v,MPl.cells,rsM,hole,hl0,hk0,List.length_map,List.getElem?_map,Option.map_some]
  refine hins _ _ ?_
  simp only[zX,Nat.reduceShiftRight,Nat.reduceMod,Nat.reduceLT,Nat.reduceMul,Nat.reduceSub,Int.reduceToNat,Int.reduceNeg,Int.reduceLT,Int.reduceLE,Int.reduceEq,Nat.reduceEqDiff,Nat.reduceAdd,Nat.reduceLeDiff,reduceIte,reduceCtorEq,Nat.reduceBEq,i64,bV,iD,bD,List.cons_append,List.nil_append,List.map_cons,List.map_nil,MPl.v,MPl.cells,rsM]
  refine draw_c mix [] [] (by rfl) ?_
  simp only[zX,Nat.reduceShiftRight,Nat.reduceMod,Nat.reduceLT,Nat.reduceMul,Nat.reduceSub,Int.reduceToNat,Int.reduceNeg,Int.reduceLT,Int.reduceLE,Int.reduceEq,Nat.reduceEqDiff,Nat.reduceAdd,Nat.reduceLeDiff,reduceIte,reduceCtorEq,Nat.reduceBEq,i64,bV,iD,bD,List.cons_append,List.nil_append,List.map_cons,List.map_nil,MPl.v,MPl.cells,rsM,hl,Re.cells_eq nd.re,decide_true,decide_false]
  refine⟨hall1,?_⟩
  simp only[Gl.d_mk,Nd.d_eq nd,Re.cells_eq nd.re,hlp,iD,bD]
end Go.Proofs.Ytpppfpaalcbggaa
