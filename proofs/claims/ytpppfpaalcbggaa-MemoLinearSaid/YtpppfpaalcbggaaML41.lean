/- A part of the proof (S12 S13). -/
import Derived.Test.YtpppfpaalcbggaaML40
set_option linter.unusedSimpArgs false
set_option linter.unusedVariables false
set_option maxRecDepth 100000
set_option maxHeartbeats 80000000
namespace Go.Proofs.Ytpppfpaalcbggaa
open Go.VL Go.Proofs.Try
theorem step_of {m:Smt} (h:m.steps < m.fuel):m.step={ m with steps:=m.steps + 1 }:=by unfold Smt.step; rw[if_neg (by omega)]
theorem liftRe (e0:V) (re:Re) (ext:List D):liftV e0 (reP re ext)=.d (reP re ext):=by
 unfold reP; rw[Re.cells_eq re]; simp only[List.cons_append,liftV_el2]
theorem opFind (o:Int) (h0:0≤o) (h1:o≤11):((mapFL .i64 opsE).bind fun l=>mapFG l o)=some (.func (opFn o)):=by
 have:o=0∨o=1∨o=2∨o=3∨o=4∨o=5∨o=6∨o=7∨o=8∨o=9∨o=10∨o=11:=by omega
 rcases this with rfl | rfl | rfl | rfl | rfl | rfl | rfl | rfl | rfl | rfl | rfl | rfl <;> rfl
theorem tree_okS (g b a:Nat) {m m':Smt} {x:Int} {c:Option CapsL} {re:Re} {ext:List D} {nx:SGoal} {r:SPlace} {f:Bool} (hg:SGood m ⟨x,c,.tree re ext nx⟩) (ho:re.op≠4) (hf:m.steps < m.fuel) (hop0:0≤re.op) (hop1:re.op≤11)
  (h:STask.wp g b a m.step m' r f (.op re ext ⟨x,c,nx⟩)):STask.wp g b a m m' r f (.call ⟨x,c,.tree re ext nx⟩):=by
 have hM:=sobj_ok m' b a 3
 have hs:=fun ex=>SRun.ext h rfl rfl ex
 have hstep:=fun ex=>call_sm (step_okS g b a m hg.s0 hg.s1) rfl rfl rfl ex
 have hdec:decide (m.steps < m.fuel)=true:=decide_eq_true hf
 rw[step_of hf] at hs hstep
 rw[hdec] at hstep
 unfold STask.wp SRun SGoal.fn SGoal.bound SGoal.next
 simp only[liftG_cons,liftG_nil,liftV_el1,liftRe,mP,liftV_raw]
 unfold Smt.objs at *
 simp only[i64,bV,iD,List.map_cons,List.map_nil,SPlace.cells,SPlace.v,reP,List.append_nil,Re.cells_eq re,List.cons_append,List.nil_append] at hs hstep
 refine fn_ok func84 rfl ntmps84 results84 rfl 3 799 (by simp) (by simp) ?_
 simp only[zX,Nat.reduceShiftRight,Nat.reduceMod,Nat.reduceLT,Nat.reduceMul,Nat.reduceSub,Int.reduceToNat,Int.reduceNeg,Int.reduceLT,Int.reduceLE,Int.reduceEq,Nat.reduceEqDiff,Nat.reduceAdd,Nat.reduceLeDiff,reduceIte,reduceCtorEq,Nat.reduceBEq,i64,bV,iD,rawAt_bx,reP,Re.cells_eq re,List.cons_append,List.nil_append,ho,ne_eq,not_false_eq_true]
 refine callWp_mono (hstep _) (fun v s' hv=>?_); obtain⟨rfl,rfl⟩:=hv
 simp only[zX,Nat.reduceShiftRight,Nat.reduceMod,Nat.reduceLT,Nat.reduceMul,Nat.reduceSub,Int.reduceToNat,Int.reduceNeg,Int.reduceLT,Int.reduceLE,Int.reduceEq,Nat.reduceEqDiff,Nat.reduceAdd,Nat.reduceLeDiff,reduceIte,reduceCtorEq,Nat.reduceBEq,i64,bV,iD,rawAt_bx,reP,Re.cells_eq re,List.cons_append,List.nil_append,Bool.not_true]
 refine draw_c mix [15] [(3,[0],[]),(18,[3],[3])] (by rfl) ?_
 simp only[zX,Nat.reduceShiftRight,Nat.reduceMod,Nat.reduceLT,Nat.reduceMul,Nat.reduceSub,Int.reduceToNat,Int.reduceNeg,Int.reduceLT,Int.reduceLE,Int.reduceEq,Nat.reduceEqDiff,Nat.reduceAdd,Nat.reduceLeDiff,reduceIte,reduceCtorEq,Nat.reduceBEq,i64,bV,iD,rawAt_bx,reP,Re.cells_eq re,List.cons_append,List.nil_append,lookFWp,tyOps,opFind re.op hop0 hop1]
 refine callD_of (hs _) ?_
 simp only[zX,Nat.reduceShiftRight,Nat.reduceMod,Nat.reduceLT,Nat.reduceMul,Nat.reduceSub,Int.reduceToNat,Int.reduceNeg,Int.reduceLT,Int.reduceLE,Int.reduceEq,Nat.reduceEqDiff,Nat.reduceAdd,Nat.reduceLeDiff,reduceIte,reduceCtorEq,Nat.reduceBEq,i64,bV,iD,rawAt_bx,srV,SPlace.v,SPlace.cells,List.map_cons,List.map_nil,List.cons_append,List.nil_append]
 exact hM
theorem rep_okS (g b a:Nat) {m m':Smt} {x:Int} {c:Option CapsL} {re:Re} {ext:List D} {nx:SGoal} {r:SPlace} {f:Bool} (ho:re.op=4) (h:STask.wp g b a m m' r f (.op re ext ⟨x,c,nx⟩)):STask.wp g b a m m' r f (.call ⟨x,c,.tree re ext nx⟩):=by
 have hM:=sobj_ok m' b a 3
 have hs:=fun ex=>SRun.ext h rfl rfl ex
 have hot:=eq_true ho
 have hfind:=opFind re.op (by omega) (by omega)
 unfold STask.wp SRun SGoal.fn SGoal.bound SGoal.next
 simp only[liftG_cons,liftG_nil,liftV_el1,liftRe,mP,liftV_raw]
 unfold Smt.objs at *
 simp only[i64,bV,iD,List.map_cons,List.map_nil,SPlace.cells,SPlace.v,reP,List.append_nil,Re.cells_eq re,List.cons_append,List.nil_append] at hs
 refine fn_ok func84 rfl ntmps84 results84 rfl 3 799 (by simp) (by simp) ?_
 simp only[zX,Nat.reduceShiftRight,Nat.reduceMod,Nat.reduceLT,Nat.reduceMul,Nat.reduceSub,Int.reduceToNat,Int.reduceNeg,Int.reduceLT,Int.reduceLE,Int.reduceEq,Nat.reduceEqDiff,Nat.reduceAdd,Nat.reduceLeDiff,reduceIte,reduceCtorEq,Nat.reduceBEq,i64,bV,iD,rawAt_bx,reP,Re.cells_eq re,List.cons_append,List.nil_append,hot,ne_eq,not_true_eq_false]
 refine draw_c mix [15] [(3,[0],[]),(18,[3],[3])] (by rfl) ?_
 simp only[zX,Nat.reduceShiftRight,Nat.reduceMod,Nat.reduceLT,Nat.reduceMul,Nat.reduceSub,Int.reduceToNat,Int.reduceNeg,Int.reduceLT,Int.reduceLE,Int.reduceEq,Nat.reduceEqDiff,Nat.reduceAdd,Nat.reduceLeDiff,reduceIte,reduceCtorEq,Nat.reduceBEq,i64,bV,iD,rawAt_bx,reP,Re.cells_eq re,List.cons_append,List.nil_append,lookFWp,tyOps,hfind]
 refine callD_of (hs _) ?_
 simp only[zX,Nat.reduceShiftRight,Nat.reduceMod,Nat.reduceLT,Nat.reduceMul,Nat.reduceSub,Int.reduceToNat,Int.reduceNeg,Int.reduceLT,Int.reduceLE,Int.reduceEq,Nat.reduceEqDiff,Nat.reduceAdd,Nat.reduceLeDiff,reduceIte,reduceCtorEq,Nat.reduceBEq,i64,bV,iD,rawAt_bx,srV,SPlace.v,SPlace.cells,List.map_cons,List.map_nil,List.cons_append,List.nil_append]
 exact hM
theorem step_out_of {m:Smt} (h:m.fuel≤m.steps):m.step={ m with spent:=true }:=by unfold Smt.step; rw[if_pos h]
theorem treeOut_okS (g b a:Nat) {m:Smt} {x:Int} {c:Option CapsL} {re:Re} {ext:List D} {nx:SGoal} (hg:SGood m ⟨x,c,.tree re ext nx⟩) (ho:re.op≠4) (hf:m.fuel≤m.steps):STask.wp g b a m m.step .zero false (.call ⟨x,c,.tree re ext nx⟩):=by
 have hM:=sobj_ok m b a 3
 have hstep:=fun ex=>call_sm (step_okS g b a m hg.s0 hg.s1) rfl rfl rfl ex
 have hdec:decide (m.steps < m.fuel)=false:=decide_eq_false (by omega)
 rw[step_out_of hf] at hstep ⊢
 rw[hdec] at hstep
 unfold STask.wp SRun SGoal.fn SGoal.bound SGoal.next
 simp only[liftG_cons,liftG_nil,liftV_el1,liftRe,mP,liftV_raw]
 unfold Smt.objs at *
 simp only[i64,bV,iD,List.map_cons,List.map_nil,SPlace.cells,SPlace.v,reP,List.append_nil,Re.cells_eq re,List.cons_append,List.nil_append] at hstep
 refine fn_ok func84 rfl ntmps84 results84 rfl 3 799 (by simp) (by simp) ?_
 simp only[zX,Nat.reduceShiftRight,Nat.reduceMod,Nat.reduceLT,Nat.reduceMul,Nat.reduceSub,Int.reduceToNat,Int.reduceNeg,Int.reduceLT,Int.reduceLE,Int.reduceEq,Nat.reduceEqDiff,Nat.reduceAdd,Nat.reduceLeDiff,reduceIte,reduceCtorEq,Nat.reduceBEq,i64,bV,iD,rawAt_bx,reP,Re.cells_eq re,List.cons_append,List.nil_append,ho,ne_eq,not_false_eq_true]
 refine callWp_mono (hstep _) (fun v s' hv=>?_); obtain⟨rfl,rfl⟩:=hv
 simp only[zX,Nat.reduceShiftRight,Nat.reduceMod,Nat.reduceLT,Nat.reduceMul,Nat.reduceSub,Int.reduceToNat,Int.reduceNeg,Int.reduceLT,Int.reduceLE,Int.reduceEq,Nat.reduceEqDiff,Nat.reduceAdd,Nat.reduceLeDiff,reduceIte,reduceCtorEq,Nat.reduceBEq,i64,bV,iD,rawAt_bx,reP,Re.cells_eq re,List.cons_append,List.nil_append,Bool.not_false,srV,SPlace.v,SPlace.cells,SPlace.zero,capsO,SGoal.d,List.map_cons,List.map_nil]
 exact hM
theorem roundOut_okS (g b a:Nat) {m:Smt} {x:Int} {c:Option CapsL} {re:Re} {ext:List D} {k:Int} {nx:SGoal} (hg:SGood m ⟨x,c,.round re ext k nx⟩) (hf:m.fuel≤m.steps):STask.wp g b a m m.step .zero false (.call ⟨x,c,.round re ext k nx⟩):=by
 have hM:=sobj_ok m b a 3
 have hstep:=fun ex=>call_sm (step_okS g b a m hg.s0 hg.s1) rfl rfl rfl ex
 have hdec:decide (m.steps < m.fuel)=false:=decide_eq_false (by omega)
 rw[step_out_of hf] at hstep ⊢
 rw[hdec] at hstep
 unfold STask.wp SRun SGoal.fn SGoal.bound SGoal.next
 simp only[liftG_cons,liftG_nil,liftV_el1,liftRe,mP,liftV_raw]
 unfold Smt.objs at *
 simp only[i64,bV,iD,List.map_cons,List.map_nil,SPlace.cells,SPlace.v,reP,List.append_nil,Re.cells_eq re,List.cons_append,List.nil_append] at hstep
 refine fn_ok func106 rfl ntmps106 results106 rfl 3 65151 (by simp) (by simp) ?_
 simp only[zX,Nat.reduceShiftRight,Nat.reduceMod,Nat.reduceLT,Nat.reduceMul,Nat.reduceSub,Int.reduceToNat,Int.reduceNeg,Int.reduceLT,Int.reduceLE,Int.reduceEq,Nat.reduceEqDiff,Nat.reduceAdd,Nat.reduceLeDiff,reduceIte,reduceCtorEq,Nat.reduceBEq,i64,bV,iD,rawAt_bx,reP,Re.cells_eq re,List.cons_append,List.nil_append,ne_eq,not_false_eq_true]
 refine callWp_mono (hstep _) (fun v s' hv=>?_); obtain⟨rfl,rfl⟩:=hv
 simp only[zX,Nat.reduceShiftRight,Nat.reduceMod,Nat.reduceLT,Nat.reduceMul,Nat.reduceSub,Int.reduceToNat,Int.reduceNeg,Int.reduceLT,Int.reduceLE,Int.reduceEq,Nat.reduceEqDiff,Nat.reduceAdd,Nat.reduceLeDiff,reduceIte,reduceCtorEq,Nat.reduceBEq,i64,bV,iD,rawAt_bx,reP,Re.cells_eq re,List.cons_append,List.nil_append,Bool.not_false,srV,SPlace.v,SPlace.cells,SPlace.zero,capsO,SGoal.d,List.map_cons,List.map_nil]
 exact hM
theorem Cln0.frz1 {e:VL.Env} {s:List VL.Obj} (ids:List Nat) (t:Nat) {v:V} (h:frzV (killO s ids).length (killO s ids) (e t)=some v):Cln0 e s (updE e t v) (killO s ids):=by
 have hc:=Cln0.freeze (e:=e) (s:=s) ids [t]
 have he:freezeE (killO s ids) [t] e=updE e t v:=by
  funext x
  unfold freezeE updE
  by_cases hx:x=t
  ·subst hx; simp [cleanV,h]
  ·simp [hx]
 rwa [he] at hc
theorem liftRound (g b a:Nat) (re:Re) (ext:List D) (k:Int):liftV (.pp 0 g 0 0 b a) (roundC b a re ext k)=.cl (.func 106) [] [.bx (rawPp (.pp 0 g 0 0 b a) b a),.bx (.d (reP re ext)),.bx (i64 k)]:=by
 unfold roundC
 simp only[liftV_cl,liftG_cons,liftG_nil,liftV_el1,liftRe,mP,liftV_raw,iD,i64,liftV_int]
theorem roundMax_okS (g b a:Nat) {m:Smt} {x:Int} {c:Option CapsL} {re kid:Re} {l:List Re} {ext:List D} {k:Int} {nx:SGoal} (hg:SGood m ⟨x,c,.round re ext k nx⟩) (hk:re.kids=kid::l) (hf:m.steps < m.fuel) (hm:¬k < re.mn) (hx:0≤re.mx) (hx2:re.mx≤k) :
  STask.wp g b a m m.step ⟨x,c,nx⟩ true (.call ⟨x,c,.round re ext k nx⟩):=by
 have hM:=sobj_ok m.step b a 3
 have hstep:=fun ex=>call_sm (step_okS g b a m hg.s0 hg.s1) rfl rfl rfl ex
 have hdec:decide (m.steps < m.fuel)=true:=decide_eq_true hf
 have l3:(0:Int) < ((l.length + 1:Nat):Int):=by omega
 rw[step_of hf] at hstep hM ⊢
 rw[hdec] at hstep
 unfold STask.wp SRun SGoal.fn SGoal.bound SGoal.next
 simp only[liftG_cons,liftG_nil,liftV_el1,liftRe,mP,liftV_raw,iD,liftV_int]
 unfold Smt.objs at *
 simp only[i64,bV,iD,List.map_cons,List.map_nil,SPlace.cells,SPlace.v,reP,List.append_nil,Re.cells_eq re,List.cons_append,List.nil_append] at hstep
 refine fn_ok func106 rfl ntmps106 results106 rfl 3 65151 (by simp) (by simp) ?_
 simp only[zX,Nat.reduceShiftRight,Nat.reduceMod,Nat.reduceLT,Nat.reduceMul,Nat.reduceSub,Int.reduceToNat,Int.reduceNeg,Int.reduceLT,Int.reduceLE,Int.reduceEq,Nat.reduceEqDiff,Nat.reduceAdd,Nat.reduceLeDiff,reduceIte,reduceCtorEq,Nat.reduceBEq,i64,bV,iD,rawAt_bx,reP,Re.cells_eq re,List.cons_append,List.nil_append]
 refine callWp_mono (hstep _) (fun v s' hv=>?_); obtain⟨rfl,rfl⟩:=hv
 simp only[zX,Nat.reduceShiftRight,Nat.reduceMod,Nat.reduceLT,Nat.reduceMul,Nat.reduceSub,Int.reduceToNat,Int.reduceNeg,Int.reduceLT,Int.reduceLE,Int.reduceEq,Nat.reduceEqDiff,Nat.reduceAdd,Nat.reduceLeDiff,reduceIte,reduceCtorEq,Nat.reduceBEq,i64,bV,iD,rawAt_bx,reP,Re.cells_eq re,List.cons_append,List.nil_append,Bool.not_true,hk,List.length_cons,List.length_map,l3]
 refine draw_c mix [] [] (by rfl) ?_
 simp only[zX,Nat.reduceShiftRight,Nat.reduceMod,Nat.reduceLT,Nat.reduceMul,Nat.reduceSub,Int.reduceToNat,Int.reduceNeg,Int.reduceLT,Int.reduceLE,Int.reduceEq,Nat.reduceEqDiff,Nat.reduceAdd,Nat.reduceLeDiff,reduceIte,reduceCtorEq,Nat.reduceBEq,i64,bV,iD,rawAt_bx,reP,Re.cells_eq re,List.cons_append,List.nil_append,hm]
 refine draw_c mix [] [] (by rfl) ?_
 simp only[zX,Nat.reduceShiftRight,Nat.reduceMod,Nat.reduceLT,Nat.reduceMul,Nat.reduceSub,Int.reduceToNat,Int.reduceNeg,Int.reduceLT,Int.reduceLE,Int.reduceEq,Nat.reduceEqDiff,Nat.reduceAdd,Nat.reduceLeDiff,reduceIte,reduceCtorEq,Nat.reduceBEq,i64,bV,iD,rawAt_bx,reP,Re.cells_eq re,List.cons_append,List.nil_append,ge_iff_le,hx,hx2,srV,SPlace.v,SPlace.cells,List.map_cons,List.map_nil]
 exact hM
theorem roundMin_okS (g b a:Nat) {m:Smt} {x:Int} {c:Option CapsL} {re kid:Re} {l:List Re} {ext:List D} {k:Int} {nx:SGoal} (hg:SGood m ⟨x,c,.round re ext k nx⟩) (hk:re.kids=kid::l) (h0:0≤k) (h1:k≤10000000000000) (hf:m.steps < m.fuel) (hm:k < re.mn) :
  STask.wp g b a m m.step ⟨x,c,.tree kid [] (.round re ext (k + 1) nx)⟩ true (.call ⟨x,c,.round re ext k nx⟩):=by
 have hM:=sobj_ok m.step b a 3
 have hstep:=fun ex=>call_sm (step_okS g b a m hg.s0 hg.s1) rfl rfl rfl ex
 have hdec:decide (m.steps < m.fuel)=true:=decide_eq_true hf
 have l3:(0:Int) < ((l.length + 1:Nat):Int):=by omega
 have w1:IntKind.i64.wrap (k + 1)=k + 1:=w64 _ (by omega)
 have hround:=fun ex K=>roundF g b a m.step re ext (k + 1) (ext:=ex) (K:=K)
 have hput:=fun ex=>call_sm (put_okS g b a m.step kid [] (.round re ext (k + 1) nx)) rfl rfl rfl ex
 rw[step_of hf] at hstep hM hround hput ⊢
 rw[hdec] at hstep
 unfold STask.wp SRun SGoal.fn SGoal.bound SGoal.next
 simp only[liftG_cons,liftG_nil,liftV_el1,liftRe,mP,liftV_raw,iD,liftV_int]
 unfold Smt.objs at *
 simp only[i64,bV,iD,List.map_cons,List.map_nil,SPlace.cells,SPlace.v,reP,List.append_nil,Re.cells_eq re,List.cons_append,List.nil_append,SGoal.d,hk] at hstep hround hput
 refine fn_ok func106 rfl ntmps106 results106 rfl 3 65151 (by simp) (by simp) ?_
 simp only[zX,Nat.reduceShiftRight,Nat.reduceMod,Nat.reduceLT,Nat.reduceMul,Nat.reduceSub,Int.reduceToNat,Int.reduceNeg,Int.reduceLT,Int.reduceLE,Int.reduceEq,Nat.reduceEqDiff,Nat.reduceAdd,Nat.reduceLeDiff,reduceIte,reduceCtorEq,Nat.reduceBEq,i64,bV,iD,rawAt_bx,reP,Re.cells_eq re,List.cons_append,List.nil_append]
 refine callWp_mono (hstep _) (fun v s' hv=>?_); obtain⟨rfl,rfl⟩:=hv
 simp only[zX,Nat.reduceShiftRight,Nat.reduceMod,Nat.reduceLT,Nat.reduceMul,Nat.reduceSub,Int.reduceToNat,Int.reduceNeg,Int.reduceLT,Int.reduceLE,Int.reduceEq,Nat.reduceEqDiff,Nat.reduceAdd,Nat.reduceLeDiff,reduceIte,reduceCtorEq,Nat.reduceBEq,i64,bV,iD,rawAt_bx,reP,Re.cells_eq re,List.cons_append,List.nil_append,Bool.not_true,hk,List.length_cons,List.length_map,l3]
 refine draw_c mix [] [] (by rfl) ?_
 simp only[zX,Nat.reduceShiftRight,Nat.reduceMod,Nat.reduceLT,Nat.reduceMul,Nat.reduceSub,Int.reduceToNat,Int.reduceNeg,Int.reduceLT,Int.reduceLE,Int.reduceEq,Nat.reduceEqDiff,Nat.reduceAdd,Nat.reduceLeDiff,reduceIte,reduceCtorEq,Nat.reduceBEq,i64,bV,iD,rawAt_bx,reP,Re.cells_eq re,List.cons_append,List.nil_append,hm]
 refine draw_first Cln0.reserve ?_
 refine draw_c mix [] [(0,[3],[]),(8,[0,1,2],[]),(11,[6],[6]),(12,[0,1,2,3,4,5,6],[6]),(14,[4],[4])] (by rfl) ?_
 simp only[zX,Nat.reduceShiftRight,Nat.reduceMod,Nat.reduceLT,Nat.reduceMul,Nat.reduceSub,Int.reduceToNat,Int.reduceNeg,Int.reduceLT,Int.reduceLE,Int.reduceEq,Nat.reduceEqDiff,Nat.reduceAdd,Nat.reduceLeDiff,reduceIte,reduceCtorEq,Nat.reduceBEq,i64,bV,iD,rawAt_bx,reP,Re.cells_eq re,List.cons_append,List.nil_append,w1,hole]
 refine hround _ _ ?_
 simp only[zX,Nat.reduceShiftRight,Nat.reduceMod,Nat.reduceLT,Nat.reduceMul,Nat.reduceSub,Int.reduceToNat,Int.reduceNeg,Int.reduceLT,Int.reduceLE,Int.reduceEq,Nat.reduceEqDiff,Nat.reduceAdd,Nat.reduceLeDiff,reduceIte,reduceCtorEq,Nat.reduceBEq,i64,bV,iD,rawAt_bx,reP,Re.cells_eq re,List.cons_append,List.nil_append,w1,hole]
 refine callF_pre (n:=7) (r:=.d ((SGoal.tree kid [] (SGoal.round re ext (k + 1) nx)).d b a)) (os:=[⟨1,false,2,[[.d (roundC b a re ext (k + 1)),.d (nx.d b a)]]⟩]) (s1:=m.step.objs g b a++[⟨0,true,1,[[.d (.sc (.int .i64 x))]]⟩,zeroS,placeO b a ⟨x,c,nx⟩,⟨1,false,2,[[.d (roundC b a re ext (k + 1)),.d (nx.d b a)]]⟩]) (fun tl=>?_) (by decide) (by rfl) (fun tl=>by rw[step_of hf]; rfl) ?_
 ·simp only[List.take,List.cons_append,List.nil_append]
  refine call_give [6] (by simp [killO,kill1,frzV.go,frzV,frzD]; rfl) ?_
  simp only[killO,kill1,List.getElem?_cons_zero,List.getElem?_cons_succ,List.set_cons_succ,List.set_cons_zero]
  refine callWp_mono (hput _) ?_
  rintro v s' ⟨rfl,rfl⟩
  refine⟨by simp only[SGoal.d,reP,List.append_nil,iD],?_⟩
  rw[step_of hf]; rfl
 rw[step_of hf]
 unfold Smt.objs placeO zeroS
 simp only[zX,Nat.reduceShiftRight,Nat.reduceMod,Nat.reduceLT,Nat.reduceMul,Nat.reduceSub,Int.reduceToNat,Int.reduceNeg,Int.reduceLT,Int.reduceLE,Int.reduceEq,Nat.reduceEqDiff,Nat.reduceAdd,Nat.reduceLeDiff,reduceIte,reduceCtorEq,Nat.reduceBEq,i64,bV,iD,rawAt_bx,List.cons_append,List.nil_append,hole,List.drop,srV,SPlace.v,SPlace.cells,List.map_cons,List.map_nil]
 exact hM
theorem roundMore_okS (g b a:Nat) {m:Smt} {x:Int} {c:Option CapsL} {re kid:Re} {l:List Re} {ext:List D} {k:Int} {nx:SGoal} (hg:SGood m ⟨x,c,.round re ext k nx⟩) (hk:re.kids=kid::l) (h0:0≤k) (h1:k≤10000000000000) (hf:m.steps < m.fuel) (hm:¬k < re.mn) (hx:¬(0≤re.mx∧re.mx≤k)) (ho:re.mode≠1) :
  STask.wp g b a m (m.step.push ⟨x,c,nx⟩) ⟨x,c,.tree kid [] (.moved x re ext (k + 1) nx)⟩ true (.call ⟨x,c,.round re ext k nx⟩):=by
 have hM:=sobj_ok (m.step.push ⟨x,c,nx⟩) b a 3
 have hstep:=fun ex=>call_sm (step_okS g b a m hg.s0 hg.s1) rfl rfl rfl ex
 have hdec:decide (m.steps < m.fuel)=true:=decide_eq_true hf
 have l3:(0:Int) < ((l.length + 1:Nat):Int):=by omega
 have w1:IntKind.i64.wrap (k + 1)=k + 1:=w64 _ (by omega)
 have htop:=hg.top
 have htmax:=hg.tmax
 have hmin:min m.top m.stk.length=m.top:=by omega
 have hmo:(re.mode=1)=False:=eq_false ho
 have hround:=fun ex=>call_sm (round_okS g b a m.step re ext (k + 1)) rfl rfl rfl ex
 have hput:=fun ex=>call_sm (put_okS g b a m.step kid [] (.moved x re ext (k + 1) nx)) rfl rfl rfl ex
 rw[step_of hf] at hstep hM hround hput ⊢
 rw[hdec] at hstep
 unfold STask.wp SRun SGoal.fn SGoal.bound SGoal.next
 simp only[liftG_cons,liftG_nil,liftV_el1,liftRe,mP,liftV_raw,iD,liftV_int]
 unfold Smt.push at *
 unfold Smt.objs at *
 simp only[i64,bV,iD,List.map_cons,List.map_nil,SPlace.cells,SPlace.v,reP,List.append_nil,Re.cells_eq re,List.cons_append,List.nil_append,SGoal.d,hk] at hstep hround hput
 refine fn_ok func106 rfl ntmps106 results106 rfl 3 65151 (by simp) (by simp) ?_
 simp only[zX,Nat.reduceShiftRight,Nat.reduceMod,Nat.reduceLT,Nat.reduceMul,Nat.reduceSub,Int.reduceToNat,Int.reduceNeg,Int.reduceLT,Int.reduceLE,Int.reduceEq,Nat.reduceEqDiff,Nat.reduceAdd,Nat.reduceLeDiff,reduceIte,reduceCtorEq,Nat.reduceBEq,i64,bV,iD,rawAt_bx,reP,Re.cells_eq re,List.cons_append,List.nil_append]
 refine callWp_mono (hstep _) (fun v s' hv=>?_); obtain⟨rfl,rfl⟩:=hv
 simp only[zX,Nat.reduceShiftRight,Nat.reduceMod,Nat.reduceLT,Nat.reduceMul,Nat.reduceSub,Int.reduceToNat,Int.reduceNeg,Int.reduceLT,Int.reduceLE,Int.reduceEq,Nat.reduceEqDiff,Nat.reduceAdd,Nat.reduceLeDiff,reduceIte,reduceCtorEq,Nat.reduceBEq,i64,bV,iD,rawAt_bx,reP,Re.cells_eq re,List.cons_append,List.nil_append,Bool.not_true,hk,List.length_cons,List.length_map,l3]
 refine draw_c mix [] [] (by rfl) ?_
 simp only[zX,Nat.reduceShiftRight,Nat.reduceMod,Nat.reduceLT,Nat.reduceMul,Nat.reduceSub,Int.reduceToNat,Int.reduceNeg,Int.reduceLT,Int.reduceLE,Int.reduceEq,Nat.reduceEqDiff,Nat.reduceAdd,Nat.reduceLeDiff,reduceIte,reduceCtorEq,Nat.reduceBEq,i64,bV,iD,rawAt_bx,reP,Re.cells_eq re,List.cons_append,List.nil_append,hm]
 refine draw_c mix [] [] (by rfl) ?_
 by_cases hx0:0≤re.mx
 ·have hx1:¬re.mx≤k:=fun h=>hx ⟨hx0,h⟩
  simp only[zX,Nat.reduceShiftRight,Nat.reduceMod,Nat.reduceLT,Nat.reduceMul,Nat.reduceSub,Int.reduceToNat,Int.reduceNeg,Int.reduceLT,Int.reduceLE,Int.reduceEq,Nat.reduceEqDiff,Nat.reduceAdd,Nat.reduceLeDiff,reduceIte,reduceCtorEq,Nat.reduceBEq,i64,bV,iD,rawAt_bx,reP,Re.cells_eq re,List.cons_append,List.nil_append,ge_iff_le,hx0,hx1,w1,hk]
  refine callWp_mono (hround _) (fun v s' hv=>?_); obtain⟨rfl,rfl⟩:=hv
  simp only[zX,Nat.reduceShiftRight,Nat.reduceMod,Nat.reduceLT,Nat.reduceMul,Nat.reduceSub,Int.reduceToNat,Int.reduceNeg,Int.reduceLT,Int.reduceLE,Int.reduceEq,Nat.reduceEqDiff,Nat.reduceAdd,Nat.reduceLeDiff,reduceIte,reduceCtorEq,Nat.reduceBEq,i64,bV,iD,rawAt_bx,reP,Re.cells_eq re,List.cons_append,List.nil_append,cells_pp]
  refine draw_first ((Cln0.frz1 [3,6] 6 (v:=.d (.el [.sc (.int .i64 x)])) (by simp [updE,killO,kill1,frzV,frzD])).trans ((Cln0.frz1 [] 14 (v:=.d (.cl (.func 107) [] [.el [.sc (.int .i64 x)],.el [roundC b a re ext (k + 1)]])) (by simp [updE,killO,kill1,frzV,frzV.go,frzD])).trans (Cln0.reserve.trans Cln0.reserve))) ?_
  simp only[killO,kill1,List.getElem?_cons_zero,List.getElem?_cons_succ,List.set_cons_succ,List.set_cons_zero]
  refine draw_c mix [] [(0,[],[]),(7,[7],[7]),(8,[0,1,2,3,4,5,6,7],[7]),(10,[8],[8]),(11,[8],[8])] (by rfl) ?_
  simp only[zX,Nat.reduceShiftRight,Nat.reduceMod,Nat.reduceLT,Nat.reduceMul,Nat.reduceSub,Int.reduceToNat,Int.reduceNeg,Int.reduceLT,Int.reduceLE,Int.reduceEq,Nat.reduceEqDiff,Nat.reduceAdd,Nat.reduceLeDiff,reduceIte,reduceCtorEq,Nat.reduceBEq,i64,bV,iD,rawAt_bx,List.cons_append,List.nil_append,hole]
  refine callF_pre (n:=8) (r:=.d ((SGoal.tree kid [] (SGoal.moved x re ext (k + 1) nx)).d b a)) (os:=[⟨1,false,2,[[.d (.cl (.func 107) [] [.el [.sc (.int .i64 x)],.el [roundC b a re ext (k + 1)]]),.d (nx.d b a)]]⟩]) (s1:=m.step.objs g b a++[⟨0,false,1,[[.d (.sc (.int .i64 x))]]⟩,zeroS,placeO b a ⟨x,c,nx⟩,⟨0,false,1,[[.d (roundC b a re ext (k + 1))]]⟩,⟨1,false,2,[[.d (.cl (.func 107) [] [.el [.sc (.int .i64 x)],.el [roundC b a re ext (k + 1)]]),.d (nx.d b a)]]⟩]) (fun tl=>?_) (by decide) (by rfl) (fun tl=>by rw[step_of hf]; rfl) ?_
  ·simp only[List.take,List.cons_append,List.nil_append]
   refine call_give [7] (by simp [killO,kill1,frzV.go,frzV,frzD]; rfl) ?_
   simp only[killO,kill1,List.getElem?_cons_zero,List.getElem?_cons_succ,List.set_cons_succ,List.set_cons_zero]
   refine callWp_mono (hput _) ?_
   rintro v s' ⟨rfl,rfl⟩
   refine⟨by simp only[SGoal.d,reP,List.append_nil,iD],?_⟩
   rw[step_of hf]; rfl
  rw[step_of hf]
  unfold Smt.objs placeO zeroS
  simp only[zX,Nat.reduceShiftRight,Nat.reduceMod,Nat.reduceLT,Nat.reduceMul,Nat.reduceSub,Int.reduceToNat,Int.reduceNeg,Int.reduceLT,Int.reduceLE,Int.reduceEq,Nat.reduceEqDiff,Nat.reduceAdd,Nat.reduceLeDiff,reduceIte,reduceCtorEq,Nat.reduceBEq,i64,bV,iD,rawAt_bx,List.cons_append,List.nil_append,hole,List.drop,reP,Re.cells_eq re,List.map_cons,List.map_nil,SPlace.cells,hmo]
  refine draw_c mix [] [(2,[0],[]),(3,[0],[]),(4,[0],[]),(5,[5],[]),(7,[2],[2]),(8,[0],[]),(9,[0],[]),(10,[0],[0])] (by rfl) ?_
  simp only[zX,Nat.reduceShiftRight,Nat.reduceMod,Nat.reduceLT,Nat.reduceMul,Nat.reduceSub,Int.reduceToNat,Int.reduceNeg,Int.reduceLT,Int.reduceLE,Int.reduceEq,Nat.reduceEqDiff,Nat.reduceAdd,Nat.reduceLeDiff,reduceIte,reduceCtorEq,Nat.reduceBEq,i64,bV,iD,rawAt_bx,List.cons_append,List.nil_append,htop,hmin,List.length_map,srV,SPlace.v,SPlace.cells,List.map_cons,List.map_nil]
  refine⟨rfl,by simp,⟨by omega,by omega⟩,?_⟩
  refine⟨by simpa only[SPlace.cells,List.map_append,List.map_take,List.map_cons,List.map_nil,iD] using hM,?_⟩
  simp only[List.map_append,List.map_take,List.map_cons,List.map_nil,SGoal.d,reP,List.append_nil,iD,SPlace.cells]
 ·simp only[zX,Nat.reduceShiftRight,Nat.reduceMod,Nat.reduceLT,Nat.reduceMul,Nat.reduceSub,Int.reduceToNat,Int.reduceNeg,Int.reduceLT,Int.reduceLE,Int.reduceEq,Nat.reduceEqDiff,Nat.reduceAdd,Nat.reduceLeDiff,reduceIte,reduceCtorEq,Nat.reduceBEq,i64,bV,iD,rawAt_bx,reP,Re.cells_eq re,List.cons_append,List.nil_append,ge_iff_le,hx0,w1,hk]
  refine callWp_mono (hround _) (fun v s' hv=>?_); obtain⟨rfl,rfl⟩:=hv
  simp only[zX,Nat.reduceShiftRight,Nat.reduceMod,Nat.reduceLT,Nat.reduceMul,Nat.reduceSub,Int.reduceToNat,Int.reduceNeg,Int.reduceLT,Int.reduceLE,Int.reduceEq,Nat.reduceEqDiff,Nat.reduceAdd,Nat.reduceLeDiff,reduceIte,reduceCtorEq,Nat.reduceBEq,i64,bV,iD,rawAt_bx,reP,Re.cells_eq re,List.cons_append,List.nil_append,cells_pp]
  refine draw_first ((Cln0.frz1 [3,6] 6 (v:=.d (.el [.sc (.int .i64 x)])) (by simp [updE,killO,kill1,frzV,frzD])).trans ((Cln0.frz1 [] 14 (v:=.d (.cl (.func 107) [] [.el [.sc (.int .i64 x)],.el [roundC b a re ext (k + 1)]])) (by simp [updE,killO,kill1,frzV,frzV.go,frzD])).trans (Cln0.reserve.trans Cln0.reserve))) ?_
  simp only[killO,kill1,List.getElem?_cons_zero,List.getElem?_cons_succ,List.set_cons_succ,List.set_cons_zero]
  refine draw_c mix [] [(0,[],[]),(7,[7],[7]),(8,[0,1,2,3,4,5,6,7],[7]),(10,[8],[8]),(11,[8],[8])] (by rfl) ?_
  simp only[zX,Nat.reduceShiftRight,Nat.reduceMod,Nat.reduceLT,Nat.reduceMul,Nat.reduceSub,Int.reduceToNat,Int.reduceNeg,Int.reduceLT,Int.reduceLE,Int.reduceEq,Nat.reduceEqDiff,Nat.reduceAdd,Nat.reduceLeDiff,reduceIte,reduceCtorEq,Nat.reduceBEq,i64,bV,iD,rawAt_bx,List.cons_append,List.nil_append,hole]
  refine callF_pre (n:=8) (r:=.d ((SGoal.tree kid [] (SGoal.moved x re ext (k + 1) nx)).d b a)) (os:=[⟨1,false,2,[[.d (.cl (.func 107) [] [.el [.sc (.int .i64 x)],.el [roundC b a re ext (k + 1)]]),.d (nx.d b a)]]⟩]) (s1:=m.step.objs g b a++[⟨0,false,1,[[.d (.sc (.int .i64 x))]]⟩,zeroS,placeO b a ⟨x,c,nx⟩,⟨0,false,1,[[.d (roundC b a re ext (k + 1))]]⟩,⟨1,false,2,[[.d (.cl (.func 107) [] [.el [.sc (.int .i64 x)],.el [roundC b a re ext (k + 1)]]),.d (nx.d b a)]]⟩]) (fun tl=>?_) (by decide) (by rfl) (fun tl=>by rw[step_of hf]; rfl) ?_
  ·simp only[List.take,List.cons_append,List.nil_append]
   refine call_give [7] (by simp [killO,kill1,frzV.go,frzV,frzD]; rfl) ?_
   simp only[killO,kill1,List.getElem?_cons_zero,List.getElem?_cons_succ,List.set_cons_succ,List.set_cons_zero]
   refine callWp_mono (hput _) ?_
   rintro v s' ⟨rfl,rfl⟩
   refine⟨by simp only[SGoal.d,reP,List.append_nil,iD],?_⟩
   rw[step_of hf]; rfl
  rw[step_of hf]
  unfold Smt.objs placeO zeroS
  simp only[zX,Nat.reduceShiftRight,Nat.reduceMod,Nat.reduceLT,Nat.reduceMul,Nat.reduceSub,Int.reduceToNat,Int.reduceNeg,Int.reduceLT,Int.reduceLE,Int.reduceEq,Nat.reduceEqDiff,Nat.reduceAdd,Nat.reduceLeDiff,reduceIte,reduceCtorEq,Nat.reduceBEq,i64,bV,iD,rawAt_bx,List.cons_append,List.nil_append,hole,List.drop,reP,Re.cells_eq re,List.map_cons,List.map_nil,SPlace.cells,hmo]
  refine draw_c mix [] [(2,[0],[]),(3,[0],[]),(4,[0],[]),(5,[5],[]),(7,[2],[2]),(8,[0],[]),(9,[0],[]),(10,[0],[0])] (by rfl) ?_
  simp only[zX,Nat.reduceShiftRight,Nat.reduceMod,Nat.reduceLT,Nat.reduceMul,Nat.reduceSub,Int.reduceToNat,Int.reduceNeg,Int.reduceLT,Int.reduceLE,Int.reduceEq,Nat.reduceEqDiff,Nat.reduceAdd,Nat.reduceLeDiff,reduceIte,reduceCtorEq,Nat.reduceBEq,i64,bV,iD,rawAt_bx,List.cons_append,List.nil_append,htop,hmin,List.length_map,srV,SPlace.v,SPlace.cells,List.map_cons,List.map_nil]
  refine⟨rfl,by simp,⟨by omega,by omega⟩,?_⟩
  refine⟨by simpa only[SPlace.cells,List.map_append,List.map_take,List.map_cons,List.map_nil,iD] using hM,?_⟩
  simp only[List.map_append,List.map_take,List.map_cons,List.map_nil,SGoal.d,reP,List.append_nil,iD,SPlace.cells]
theorem roundLazy_okS (g b a:Nat) {m:Smt} {x:Int} {c:Option CapsL} {re kid:Re} {l:List Re} {ext:List D} {k:Int} {nx:SGoal} (hg:SGood m ⟨x,c,.round re ext k nx⟩) (hk:re.kids=kid::l) (h0:0≤k) (h1:k≤10000000000000) (hf:m.steps < m.fuel) (hm:¬k < re.mn) (hx:¬(0≤re.mx∧re.mx≤k)) (ho:re.mode=1) :
  STask.wp g b a m (m.step.push ⟨x,c,.tree kid [] (.moved x re ext (k + 1) nx)⟩) ⟨x,c,nx⟩ true (.call ⟨x,c,.round re ext k nx⟩):=by
 have hM:=sobj_ok (m.step.push ⟨x,c,.tree kid [] (.moved x re ext (k + 1) nx)⟩) b a 3
 have hstep:=fun ex=>call_sm (step_okS g b a m hg.s0 hg.s1) rfl rfl rfl ex
 have hdec:decide (m.steps < m.fuel)=true:=decide_eq_true hf
 have l3:(0:Int) < ((l.length + 1:Nat):Int):=by omega
 have w1:IntKind.i64.wrap (k + 1)=k + 1:=w64 _ (by omega)
 have htop:=hg.top
 have htmax:=hg.tmax
 have hmin:min m.top m.stk.length=m.top:=by omega
 have hmo:(re.mode=1)=True:=eq_true ho
 have hround:=fun ex=>call_sm (round_okS g b a m.step re ext (k + 1)) rfl rfl rfl ex
 have hput:=fun ex=>call_sm (put_okS g b a m.step kid [] (.moved x re ext (k + 1) nx)) rfl rfl rfl ex
 rw[step_of hf] at hstep hM hround hput ⊢
 rw[hdec] at hstep
 unfold STask.wp SRun SGoal.fn SGoal.bound SGoal.next
 simp only[liftG_cons,liftG_nil,liftV_el1,liftRe,mP,liftV_raw,iD,liftV_int]
 unfold Smt.push at *
 unfold Smt.objs at *
 simp only[i64,bV,iD,List.map_cons,List.map_nil,SPlace.cells,SPlace.v,reP,List.append_nil,Re.cells_eq re,List.cons_append,List.nil_append,SGoal.d,hk] at hstep hround hput
 refine fn_ok func106 rfl ntmps106 results106 rfl 3 65151 (by simp) (by simp) ?_
 simp only[zX,Nat.reduceShiftRight,Nat.reduceMod,Nat.reduceLT,Nat.reduceMul,Nat.reduceSub,Int.reduceToNat,Int.reduceNeg,Int.reduceLT,Int.reduceLE,Int.reduceEq,Nat.reduceEqDiff,Nat.reduceAdd,Nat.reduceLeDiff,reduceIte,reduceCtorEq,Nat.reduceBEq,i64,bV,iD,rawAt_bx,reP,Re.cells_eq re,List.cons_append,List.nil_append]
 refine callWp_mono (hstep _) (fun v s' hv=>?_); obtain⟨rfl,rfl⟩:=hv
 simp only[zX,Nat.reduceShiftRight,Nat.reduceMod,Nat.reduceLT,Nat.reduceMul,Nat.reduceSub,Int.reduceToNat,Int.reduceNeg,Int.reduceLT,Int.reduceLE,Int.reduceEq,Nat.reduceEqDiff,Nat.reduceAdd,Nat.reduceLeDiff,reduceIte,reduceCtorEq,Nat.reduceBEq,i64,bV,iD,rawAt_bx,reP,Re.cells_eq re,List.cons_append,List.nil_append,Bool.not_true,hk,List.length_cons,List.length_map,l3]
 refine draw_c mix [] [] (by rfl) ?_
 simp only[zX,Nat.reduceShiftRight,Nat.reduceMod,Nat.reduceLT,Nat.reduceMul,Nat.reduceSub,Int.reduceToNat,Int.reduceNeg,Int.reduceLT,Int.reduceLE,Int.reduceEq,Nat.reduceEqDiff,Nat.reduceAdd,Nat.reduceLeDiff,reduceIte,reduceCtorEq,Nat.reduceBEq,i64,bV,iD,rawAt_bx,reP,Re.cells_eq re,List.cons_append,List.nil_append,hm]
 refine draw_c mix [] [] (by rfl) ?_
 by_cases hx0:0≤re.mx
 ·have hx1:¬re.mx≤k:=fun h=>hx ⟨hx0,h⟩
  simp only[zX,Nat.reduceShiftRight,Nat.reduceMod,Nat.reduceLT,Nat.reduceMul,Nat.reduceSub,Int.reduceToNat,Int.reduceNeg,Int.reduceLT,Int.reduceLE,Int.reduceEq,Nat.reduceEqDiff,Nat.reduceAdd,Nat.reduceLeDiff,reduceIte,reduceCtorEq,Nat.reduceBEq,i64,bV,iD,rawAt_bx,reP,Re.cells_eq re,List.cons_append,List.nil_append,ge_iff_le,hx0,hx1,w1,hk]
  refine callWp_mono (hround _) (fun v s' hv=>?_); obtain⟨rfl,rfl⟩:=hv
  simp only[zX,Nat.reduceShiftRight,Nat.reduceMod,Nat.reduceLT,Nat.reduceMul,Nat.reduceSub,Int.reduceToNat,Int.reduceNeg,Int.reduceLT,Int.reduceLE,Int.reduceEq,Nat.reduceEqDiff,Nat.reduceAdd,Nat.reduceLeDiff,reduceIte,reduceCtorEq,Nat.reduceBEq,i64,bV,iD,rawAt_bx,reP,Re.cells_eq re,List.cons_append,List.nil_append,cells_pp]
  refine draw_first ((Cln0.frz1 [3,6] 6 (v:=.d (.el [.sc (.int .i64 x)])) (by simp [updE,killO,kill1,frzV,frzD])).trans ((Cln0.frz1 [] 14 (v:=.d (.cl (.func 107) [] [.el [.sc (.int .i64 x)],.el [roundC b a re ext (k + 1)]])) (by simp [updE,killO,kill1,frzV,frzV.go,frzD])).trans (Cln0.reserve.trans Cln0.reserve))) ?_
  simp only[killO,kill1,List.getElem?_cons_zero,List.getElem?_cons_succ,List.set_cons_succ,List.set_cons_zero]
  refine draw_c mix [] [(0,[],[]),(7,[7],[7]),(8,[0,1,2,3,4,5,6,7],[7]),(10,[8],[8]),(11,[8],[8])] (by rfl) ?_
  simp only[zX,Nat.reduceShiftRight,Nat.reduceMod,Nat.reduceLT,Nat.reduceMul,Nat.reduceSub,Int.reduceToNat,Int.reduceNeg,Int.reduceLT,Int.reduceLE,Int.reduceEq,Nat.reduceEqDiff,Nat.reduceAdd,Nat.reduceLeDiff,reduceIte,reduceCtorEq,Nat.reduceBEq,i64,bV,iD,rawAt_bx,List.cons_append,List.nil_append,hole]
  refine callF_pre (n:=8) (r:=.d ((SGoal.tree kid [] (SGoal.moved x re ext (k + 1) nx)).d b a)) (os:=[⟨1,false,2,[[.d (.cl (.func 107) [] [.el [.sc (.int .i64 x)],.el [roundC b a re ext (k + 1)]]),.d (nx.d b a)]]⟩]) (s1:=m.step.objs g b a++[⟨0,false,1,[[.d (.sc (.int .i64 x))]]⟩,zeroS,placeO b a ⟨x,c,nx⟩,⟨0,false,1,[[.d (roundC b a re ext (k + 1))]]⟩,⟨1,false,2,[[.d (.cl (.func 107) [] [.el [.sc (.int .i64 x)],.el [roundC b a re ext (k + 1)]]),.d (nx.d b a)]]⟩]) (fun tl=>?_) (by decide) (by rfl) (fun tl=>by rw[step_of hf]; rfl) ?_
  ·simp only[List.take,List.cons_append,List.nil_append]
   refine call_give [7] (by simp [killO,kill1,frzV.go,frzV,frzD]; rfl) ?_
   simp only[killO,kill1,List.getElem?_cons_zero,List.getElem?_cons_succ,List.set_cons_succ,List.set_cons_zero]
   refine callWp_mono (hput _) ?_
   rintro v s' ⟨rfl,rfl⟩
   refine⟨by simp only[SGoal.d,reP,List.append_nil,iD],?_⟩
   rw[step_of hf]; rfl
  rw[step_of hf]
  unfold Smt.objs placeO zeroS
  simp only[zX,Nat.reduceShiftRight,Nat.reduceMod,Nat.reduceLT,Nat.reduceMul,Nat.reduceSub,Int.reduceToNat,Int.reduceNeg,Int.reduceLT,Int.reduceLE,Int.reduceEq,Nat.reduceEqDiff,Nat.reduceAdd,Nat.reduceLeDiff,reduceIte,reduceCtorEq,Nat.reduceBEq,i64,bV,iD,rawAt_bx,List.cons_append,List.nil_append,hole,List.drop,reP,Re.cells_eq re,List.map_cons,List.map_nil,SPlace.cells,hmo]
  refine draw_c mix [] [(2,[0],[]),(3,[0],[]),(4,[0],[]),(5,[8],[]),(7,[2],[2]),(8,[0],[]),(9,[0],[]),(10,[0],[0])] (by rfl) ?_
  simp only[zX,Nat.reduceShiftRight,Nat.reduceMod,Nat.reduceLT,Nat.reduceMul,Nat.reduceSub,Int.reduceToNat,Int.reduceNeg,Int.reduceLT,Int.reduceLE,Int.reduceEq,Nat.reduceEqDiff,Nat.reduceAdd,Nat.reduceLeDiff,reduceIte,reduceCtorEq,Nat.reduceBEq,i64,bV,iD,rawAt_bx,List.cons_append,List.nil_append,htop,hmin,List.length_map,srV,SPlace.v,SPlace.cells,List.map_cons,List.map_nil]
  refine⟨rfl,by simp,⟨by omega,by omega⟩,?_⟩
  refine⟨by simpa only[SPlace.cells,List.map_append,List.map_take,List.map_cons,List.map_nil,iD] using hM,?_⟩
  simp only[List.map_append,List.map_take,List.map_cons,List.map_nil,SGoal.d,reP,List.append_nil,iD,SPlace.cells]
 ·simp only[zX,Nat.reduceShiftRight,Nat.reduceMod,Nat.reduceLT,Nat.reduceMul,Nat.reduceSub,Int.reduceToNat,Int.reduceNeg,Int.reduceLT,Int.reduceLE,Int.reduceEq,Nat.reduceEqDiff,Nat.reduceAdd,Nat.reduceLeDiff,reduceIte,reduceCtorEq,Nat.reduceBEq,i64,bV,iD,rawAt_bx,reP,Re.cells_eq re,List.cons_append,List.nil_append,ge_iff_le,hx0,w1,hk]
  refine callWp_mono (hround _) (fun v s' hv=>?_); obtain⟨rfl,rfl⟩:=hv
  simp only[zX,Nat.reduceShiftRight,Nat.reduceMod,Nat.reduceLT,Nat.reduceMul,Nat.reduceSub,Int.reduceToNat,Int.reduceNeg,Int.reduceLT,Int.reduceLE,Int.reduceEq,Nat.reduceEqDiff,Nat.reduceAdd,Nat.reduceLeDiff,reduceIte,reduceCtorEq,Nat.reduceBEq,i64,bV,iD,rawAt_bx,reP,Re.cells_eq re,List.cons_append,List.nil_append,cells_pp]
  refine draw_first ((Cln0.frz1 [3,6] 6 (v:=.d (.el [.sc (.int .i64 x)])) (by simp [updE,killO,kill1,frzV,frzD])).trans ((Cln0.frz1 [] 14 (v:=.d (.cl (.func 107) [] [.el [.sc (.int .i64 x)],.el [roundC b a re ext (k + 1)]])) (by simp [updE,killO,kill1,frzV,frzV.go,frzD])).trans (Cln0.reserve.trans Cln0.reserve))) ?_
  simp only[killO,kill1,List.getElem?_cons_zero,List.getElem?_cons_succ,List.set_cons_succ,List.set_cons_zero]
  refine draw_c mix [] [(0,[],[]),(7,[7],[7]),(8,[0,1,2,3,4,5,6,7],[7]),(10,[8],[8]),(11,[8],[8])] (by rfl) ?_
  simp only[zX,Nat.reduceShiftRight,Nat.reduceMod,Nat.reduceLT,Nat.reduceMul,Nat.reduceSub,Int.reduceToNat,Int.reduceNeg,Int.reduceLT,Int.reduceLE,Int.reduceEq,Nat.reduceEqDiff,Nat.reduceAdd,Nat.reduceLeDiff,reduceIte,reduceCtorEq,Nat.reduceBEq,i64,bV,iD,rawAt_bx,List.cons_append,List.nil_append,hole]
  refine callF_pre (n:=8) (r:=.d ((SGoal.tree kid [] (SGoal.moved x re ext (k + 1) nx)).d b a)) (os:=[⟨1,false,2,[[.d (.cl (.func 107) [] [.el [.sc (.int .i64 x)],.el [roundC b a re ext (k + 1)]]),.d (nx.d b a)]]⟩]) (s1:=m.step.objs g b a++[⟨0,false,1,[[.d (.sc (.int .i64 x))]]⟩,zeroS,placeO b a ⟨x,c,nx⟩,⟨0,false,1,[[.d (roundC b a re ext (k + 1))]]⟩,⟨1,false,2,[[.d (.cl (.func 107) [] [.el [.sc (.int .i64 x)],.el [roundC b a re ext (k + 1)]]),.d (nx.d b a)]]⟩]) (fun tl=>?_) (by decide) (by rfl) (fun tl=>by rw[step_of hf]; rfl) ?_
  ·simp only[List.take,List.cons_append,List.nil_append]
   refine call_give [7] (by simp [killO,kill1,frzV.go,frzV,frzD]; rfl) ?_
   simp only[killO,kill1,List.getElem?_cons_zero,List.getElem?_cons_succ,List.set_cons_succ,List.set_cons_zero]
   refine callWp_mono (hput _) ?_
   rintro v s' ⟨rfl,rfl⟩
   refine⟨by simp only[SGoal.d,reP,List.append_nil,iD],?_⟩
   rw[step_of hf]; rfl
  rw[step_of hf]
  unfold Smt.objs placeO zeroS
  simp only[zX,Nat.reduceShiftRight,Nat.reduceMod,Nat.reduceLT,Nat.reduceMul,Nat.reduceSub,Int.reduceToNat,Int.reduceNeg,Int.reduceLT,Int.reduceLE,Int.reduceEq,Nat.reduceEqDiff,Nat.reduceAdd,Nat.reduceLeDiff,reduceIte,reduceCtorEq,Nat.reduceBEq,i64,bV,iD,rawAt_bx,List.cons_append,List.nil_append,hole,List.drop,reP,Re.cells_eq re,List.map_cons,List.map_nil,SPlace.cells,hmo]
  refine draw_c mix [] [(2,[0],[]),(3,[0],[]),(4,[0],[]),(5,[8],[]),(7,[2],[2]),(8,[0],[]),(9,[0],[]),(10,[0],[0])] (by rfl) ?_
  simp only[zX,Nat.reduceShiftRight,Nat.reduceMod,Nat.reduceLT,Nat.reduceMul,Nat.reduceSub,Int.reduceToNat,Int.reduceNeg,Int.reduceLT,Int.reduceLE,Int.reduceEq,Nat.reduceEqDiff,Nat.reduceAdd,Nat.reduceLeDiff,reduceIte,reduceCtorEq,Nat.reduceBEq,i64,bV,iD,rawAt_bx,List.cons_append,List.nil_append,htop,hmin,List.length_map,srV,SPlace.v,SPlace.cells,List.map_cons,List.map_nil]
  refine⟨rfl,by simp,⟨by omega,by omega⟩,?_⟩
  refine⟨by simpa only[SPlace.cells,List.map_append,List.map_take,List.map_cons,List.map_nil,iD] using hM,?_⟩
  simp only[List.map_append,List.map_take,List.map_cons,List.map_nil,SGoal.d,reP,List.append_nil,iD,SPlace.cells]
end Go.Proofs.Ytpppfpaalcbggaa
