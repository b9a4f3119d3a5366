/- A part of the proof (S10 S11). -/
import Derived.Test.YtpppfpaalcbggaaML39
set_option linter.unusedSimpArgs false
set_option linter.unusedVariables false
set_option maxRecDepth 100000
set_option maxHeartbeats 80000000
namespace Go.Proofs.Ytpppfpaalcbggaa
open Go.VL Go.Proofs.Try
theorem atom_okS (g b a:Nat) {m m':Smt} {re kid:Re} {l:List Re} (ext:List D) {p q:SPlace} {f:Bool} (hk:re.kids=kid::l) (h:STask.wp g b a m m' q f (.first { p with todo:=.tree kid [] .nil })) :
  SRun 81 [.pp 0 g 0 0 b a,.d (reP re ext),p.v b a] g b a m m' { q with todo:=p.todo } f:=by
 have hs:=fun ext K=>SRun.callF h rfl rfl (ext:=ext) (K:=K)
 have hM:=sobj_ok m' b a 3
 have hput:=fun ext K=>putF g b a m kid .nil (ext:=ext) (K:=K)
 have haft:=after_okS b a q f p.todo
 unfold SRun
 unfold Smt.objs at *
 simp only[i64,bV,iD,List.map_cons,List.map_nil,SPlace.cells,SPlace.v,srV,reP,SGoal.d,List.append_nil] at hs hput haft
 have l3:(0:Int) < ((l.length + 1:Nat):Int):=by omega
 refine fn_ok func81 rfl ntmps81 results81 rfl 3 999 (by simp) (by simp) ?_
 simp only[zX,Nat.reduceShiftRight,Nat.reduceMod,Nat.reduceLT,Nat.reduceMul,Nat.reduceSub,Int.reduceToNat,Int.reduceNeg,Int.reduceLT,Int.reduceLE,Int.reduceEq,Nat.reduceEqDiff,Nat.reduceAdd,Nat.reduceLeDiff,reduceIte,reduceCtorEq,Nat.reduceBEq,i64,bV,iD,srV,SPlace.v,SPlace.cells,List.map_cons,List.map_nil]
 refine draw_first Cln0.reserve ?_
 refine draw_c mix [] [(1,[3],[]),(2,[3],[]),(3,[3],[]),(4,[3],[]),(8,[],[]),(9,[],[]),(10,[],[]),(11,[0,1,2],[]),(13,[0,1,2],[0,1,2]),(17,[5],[5]),(18,[5],[5])] (by rfl) ?_
 simp only[zX,Nat.reduceShiftRight,Nat.reduceMod,Nat.reduceLT,Nat.reduceMul,Nat.reduceSub,Int.reduceToNat,Int.reduceNeg,Int.reduceLT,Int.reduceLE,Int.reduceEq,Nat.reduceEqDiff,Nat.reduceAdd,Nat.reduceLeDiff,reduceIte,reduceCtorEq,Nat.reduceBEq,i64,bV,iD,srV,SPlace.v,SPlace.cells,List.map_cons,List.map_nil,List.cons_append,List.nil_append,List.length_map,reP,Re.cells_eq re,hk,List.length_cons,l3]
 refine hput _ _ ?_
 simp only[zX,Nat.reduceShiftRight,Nat.reduceMod,Nat.reduceLT,Nat.reduceMul,Nat.reduceSub,Int.reduceToNat,Int.reduceNeg,Int.reduceLT,Int.reduceLE,Int.reduceEq,Nat.reduceEqDiff,Nat.reduceAdd,Nat.reduceLeDiff,reduceIte,reduceCtorEq,Nat.reduceBEq,i64,bV,iD,srV,SPlace.v,SPlace.cells,List.map_cons,List.map_nil,List.cons_append,List.nil_append]
 refine hs _ _ ?_
 simp only[zX,Nat.reduceShiftRight,Nat.reduceMod,Nat.reduceLT,Nat.reduceMul,Nat.reduceSub,Int.reduceToNat,Int.reduceNeg,Int.reduceLT,Int.reduceLE,Int.reduceEq,Nat.reduceEqDiff,Nat.reduceAdd,Nat.reduceLeDiff,reduceIte,reduceCtorEq,Nat.reduceBEq,i64,bV,iD,srV,SPlace.v,SPlace.cells,List.map_cons,List.map_nil,List.cons_append,List.nil_append,hole,mP]
 refine call_pure haft (by simp [refsV,refsV.go,reV_eq,i64,bV,reEl]) (by simp [refsV,refsV.go,reV_eq,i64,bV,reEl]) ?_
 simp only[zX,Nat.reduceShiftRight,Nat.reduceMod,Nat.reduceLT,Nat.reduceMul,Nat.reduceSub,Int.reduceToNat,Int.reduceNeg,Int.reduceLT,Int.reduceLE,Int.reduceEq,Nat.reduceEqDiff,Nat.reduceAdd,Nat.reduceLeDiff,reduceIte,reduceCtorEq,Nat.reduceBEq,i64,bV,iD,srV,SPlace.v,SPlace.cells,List.map_cons,List.map_nil,List.cons_append,List.nil_append]
 exact hM
theorem roundF (g b a:Nat) (m:Smt) (re:Re) (ex:List D) (k:Int) {ext:List VL.Obj} {K:V→List VL.Obj→Prop} (hk:K (.d (roundC b a re ex k)) (m.objs g b a++ext)) :
  callF prog [0,1,2] [] 93 [.pp 0 g 0 0 b a,.d (reP re ex),i64 k] (m.objs g b a++ext) K:=by
 refine⟨.d (roundC b a re ex k),[],rfl,fun s' hl hr=>?_,hk⟩
 have e:=split3 hl hr
 have hp:=call_sm (round_okS g b a m re ex k) rfl rfl rfl (s'.drop 3)
 rw[← e] at hp
 exact hp
theorem repN_okS (g b a:Nat) (m:Smt) (re:Re) (ext:List D) (p:SPlace) (hm:re.mode≠2):SRun 76 [.pp 0 g 0 0 b a,.d (reP re ext),p.v b a] g b a m m { p with todo:=.round re ext 0 p.todo } true:=by
 have hM:=sobj_ok m b a 3
 have hround:=fun ex K=>roundF g b a m re ext 0 (ext:=ex) (K:=K)
 unfold SRun
 unfold Smt.objs at *
 simp only[i64,bV,iD,List.map_cons,List.map_nil,SPlace.cells,SPlace.v,srV,reP,SGoal.d,List.append_nil,Re.cells_eq re,List.cons_append,List.nil_append] at hround
 refine fn_ok func76 rfl ntmps76 results76 rfl 3 999 (by simp) (by simp) ?_
 simp only[zX,Nat.reduceShiftRight,Nat.reduceMod,Nat.reduceLT,Nat.reduceMul,Nat.reduceSub,Int.reduceToNat,Int.reduceNeg,Int.reduceLT,Int.reduceLE,Int.reduceEq,Nat.reduceEqDiff,Nat.reduceAdd,Nat.reduceLeDiff,reduceIte,reduceCtorEq,Nat.reduceBEq,i64,bV,iD,srV,SPlace.v,SPlace.cells,List.map_cons,List.map_nil,reP,Re.cells_eq re,List.cons_append,List.nil_append,hm]
 refine draw_first Cln0.reserve ?_
 refine draw_c mix [] [(2,[0,1,2],[]),(3,[3],[]),(4,[3],[]),(6,[5],[5]),(7,[3],[]),(8,[3,5],[3])] (by rfl) ?_
 simp only[zX,Nat.reduceShiftRight,Nat.reduceMod,Nat.reduceLT,Nat.reduceMul,Nat.reduceSub,Int.reduceToNat,Int.reduceNeg,Int.reduceLT,Int.reduceLE,Int.reduceEq,Nat.reduceEqDiff,Nat.reduceAdd,Nat.reduceLeDiff,reduceIte,reduceCtorEq,Nat.reduceBEq,i64,bV,iD,srV,SPlace.v,SPlace.cells,List.map_cons,List.map_nil,List.cons_append,List.nil_append,List.length_map,hole]
 refine hround _ _ ?_
 simp only[zX,Nat.reduceShiftRight,Nat.reduceMod,Nat.reduceLT,Nat.reduceMul,Nat.reduceSub,Int.reduceToNat,Int.reduceNeg,Int.reduceLT,Int.reduceLE,Int.reduceEq,Nat.reduceEqDiff,Nat.reduceAdd,Nat.reduceLeDiff,reduceIte,reduceCtorEq,Nat.reduceBEq,i64,bV,iD,srV,SPlace.v,SPlace.cells,List.map_cons,List.map_nil,List.cons_append,List.nil_append,hole]
 exact⟨hM,rfl⟩
theorem callF_pre {P:Program} {f:FuncId} {args:List V} {n:Nat} {s s1 os:List VL.Obj} {rd wr:List Nat} {r:V} {K:V→List VL.Obj→Prop} (h:∀tl,callWp P f args (s.take n++tl) fun v s''=>v=r∧s''=s1++tl) (hrd:∀i,i < n→i∈rd) (hl:os.length=wr.length)
  (hput:∀tl,putObjs (s.take n++tl) wr os=s1++tl) (hk:K r (s1++s.drop n)):callF P rd wr f args s K:=by
 refine⟨r,os,hl,fun s' hl' hr=>?_,?_⟩
 ·have e:s'=s.take n++s'.drop n:=by
   conv=>lhs; rw[← List.take_append_drop n s']
   congr 1
   apply List.ext_getElem?
   intro i
   rw[List.getElem?_take,List.getElem?_take]
   by_cases hi:i < n
   ·rw[if_pos hi,if_pos hi]; exact hr i (hrd i hi)
   ·rw[if_neg hi,if_neg hi]
  have:=h (s'.drop n)
  rw[← e] at this
  refine callWp_mono this fun v s'' hv=>⟨hv.1,?_⟩
  rw[hv.2,← hput,← e]
 ·have:putObjs s wr os=s1++s.drop n:=by rw[← hput,List.take_append_drop]
  rw[this]; exact hk
theorem repP_okS (g b a:Nat) {m m':Smt} {re:Re} {ext:List D} {p q:SPlace} {f:Bool} (hm:re.mode=2) (h:STask.wp g b a m m' q f (.first { p with todo:=.round re ext 0 .nil })) :
  SRun 76 [.pp 0 g 0 0 b a,.d (reP re ext),p.v b a] g b a m m' { q with todo:=p.todo } f:=by
 have hM:=sobj_ok m' b a 3
 have hmt:=eq_true hm
 have hround:=fun ex K=>roundF g b a m re ext 0 (ext:=ex) (K:=K)
 have hs:=fun ext=>SRun.ext h rfl rfl ext
 have haft:=after_okS b a q f p.todo
 unfold SRun
 unfold Smt.objs at *
 simp only[i64,bV,iD,List.map_cons,List.map_nil,SPlace.cells,SPlace.v,srV,reP,SGoal.d,List.append_nil,Re.cells_eq re,List.cons_append,List.nil_append] at hround hs haft
 refine fn_ok func76 rfl ntmps76 results76 rfl 3 999 (by simp) (by simp) ?_
 simp only[zX,Nat.reduceShiftRight,Nat.reduceMod,Nat.reduceLT,Nat.reduceMul,Nat.reduceSub,Int.reduceToNat,Int.reduceNeg,Int.reduceLT,Int.reduceLE,Int.reduceEq,Nat.reduceEqDiff,Nat.reduceAdd,Nat.reduceLeDiff,reduceIte,reduceCtorEq,Nat.reduceBEq,i64,bV,iD,srV,SPlace.v,SPlace.cells,List.map_cons,List.map_nil,reP,Re.cells_eq re,List.cons_append,List.nil_append,hmt]
 refine draw_first (Cln0.reserve.trans Cln0.reserve) ?_
 refine draw_c mix [] [(1,[3],[]),(2,[3],[]),(3,[3],[]),(4,[3],[]),(7,[0,1,2],[]),(9,[5],[5]),(11,[0,1,2,3,4,5],[0,1,2,5]),(15,[6],[6]),(16,[6],[6])] (by rfl) ?_
 simp only[zX,Nat.reduceShiftRight,Nat.reduceMod,Nat.reduceLT,Nat.reduceMul,Nat.reduceSub,Int.reduceToNat,Int.reduceNeg,Int.reduceLT,Int.reduceLE,Int.reduceEq,Nat.reduceEqDiff,Nat.reduceAdd,Nat.reduceLeDiff,reduceIte,reduceCtorEq,Nat.reduceBEq,i64,bV,iD,srV,SPlace.v,SPlace.cells,List.map_cons,List.map_nil,List.cons_append,List.nil_append,List.length_map,hole]
 refine hround _ _ ?_
 simp only[zX,Nat.reduceShiftRight,Nat.reduceMod,Nat.reduceLT,Nat.reduceMul,Nat.reduceSub,Int.reduceToNat,Int.reduceNeg,Int.reduceLT,Int.reduceLE,Int.reduceEq,Nat.reduceEqDiff,Nat.reduceAdd,Nat.reduceLeDiff,reduceIte,reduceCtorEq,Nat.reduceBEq,i64,bV,iD,srV,SPlace.v,SPlace.cells,List.map_cons,List.map_nil,List.cons_append,List.nil_append,hole]
 refine callF_pre (n:=6) (r:=srV b a q f) (os:=((m'.objs g b a)++[⟨1,false,2,[[.d (roundC b a re ext 0),.d (.sc (.pointer none))]]⟩])) (s1:=m'.objs g b a++[placeO b a p,zeroS,⟨1,false,2,[[.d (roundC b a re ext 0),.d (.sc (.pointer none))]]⟩]) (fun tl=>?_) (by decide) (by rfl) (fun tl=>by rfl) ?_
 ·simp only[List.take,List.cons_append,List.nil_append]
  refine call_give [5] (by simp [killO,kill1,frzV.go,frzV,frzD]; rfl) ?_
  simp only[killO,kill1,List.getElem?_cons_zero,List.getElem?_cons_succ,List.set_cons_succ,List.set_cons_zero]
  exact hs _
 unfold Smt.objs placeO zeroS
 simp only[zX,Nat.reduceShiftRight,Nat.reduceMod,Nat.reduceLT,Nat.reduceMul,Nat.reduceSub,Int.reduceToNat,Int.reduceNeg,Int.reduceLT,Int.reduceLE,Int.reduceEq,Nat.reduceEqDiff,Nat.reduceAdd,Nat.reduceLeDiff,reduceIte,reduceCtorEq,Nat.reduceBEq,i64,bV,iD,srV,SPlace.v,SPlace.cells,List.map_cons,List.map_nil,List.cons_append,List.nil_append,hole,List.drop]
 refine call_pure haft (by simp [refsV,refsV.go,reV_eq,i64,bV,reEl]) (by simp [refsV,refsV.go,reV_eq,i64,bV,reEl]) ?_
 simp only[zX,Nat.reduceShiftRight,Nat.reduceMod,Nat.reduceLT,Nat.reduceMul,Nat.reduceSub,Int.reduceToNat,Int.reduceNeg,Int.reduceLT,Int.reduceLE,Int.reduceEq,Nat.reduceEqDiff,Nat.reduceAdd,Nat.reduceLeDiff,reduceIte,reduceCtorEq,Nat.reduceBEq,i64,bV,iD,srV,SPlace.v,SPlace.cells,List.map_cons,List.map_nil,List.cons_append,List.nil_append]
 exact hM
def SIH (n:Nat):Prop:=∀j,j < n→∀(task:STask) (m m':Smt) (r:SPlace) (f:Bool),SEv j task m m' r f→∀g b a,STask.wp g b a m m' r f task
def kO (b a:Nat) (p:SPlace):VL.Obj:=⟨0,false,3,[[.d (iD p.at_),.d (capsO p.caps),.d (p.todo.d b a)]]⟩
theorem behind_okS {n k:Nat} (ih:SIH n) (hkn:k < n) (g b a:Nat) {m m':Smt} {re kid:Re} {l:List Re} (ext:List D) {p r:SPlace} {f:Bool} (hk:re.kids=kid::l) (hp:0≤p.at_) (hp1:p.at_≤1000000) (h:SEv k (.behind re kid p (p.at_.toNat + 1)) m m' r f) :
  SRun 80 [.pp 0 g 0 0 b a,.d (reP re ext),p.v b a] g b a m m' r f:=by
 have hM:=sobj_ok m' b a 3
 have l3:(0:Int) < ((l.length + 1:Nat):Int):=by omega
 have hrc:reP re ext=.el ([iD re.op,.sl (re.set.map spanC),.sl (re.kids.map Re.cells),iD re.mn,iD re.mx,iD re.mode,iD re.n,bD re.neg]++ext):=by unfold reP; rw[Re.cells_eq re]
 unfold SRun
 unfold Smt.objs
 refine fn_ok func80 rfl ntmps80 results80 rfl 3 4071 (by simp) (by simp) ?_
 simp only[zX,Nat.reduceShiftRight,Nat.reduceMod,Nat.reduceLT,Nat.reduceMul,Nat.reduceSub,Int.reduceToNat,Int.reduceNeg,Int.reduceLT,Int.reduceLE,Int.reduceEq,Nat.reduceEqDiff,Nat.reduceAdd,Nat.reduceLeDiff,reduceIte,reduceCtorEq,Nat.reduceBEq,i64,bV,iD,srV,SPlace.v,SPlace.cells,List.map_cons,List.map_nil]
 refine loop_rule (fun n e s=>∃(j:Nat) (m1:Smt),n≤k∧j≤1000001∧e 0=.pp 0 g 0 0 b a∧e 1=.d (reP re ext)∧e 5=.d (.el [iD p.at_,capsO p.caps,p.todo.d b a])∧e 6=.rf 4 0 0 0∧e 8=.d (.cl (.func 98) [] [.el [iD p.at_,capsO p.caps,p.todo.d b a]])∧e 9=i64 ((j:Int) - 1)∧s=m1.objs g b a++[kO b a p,zeroS]∧SEv n (.behind re kid p j) m1 m' r f)
  ⟨_,_,_,Cln.freeze [3] [5,8],p.at_.toNat + 1,m,Nat.le_refl _,by omega,?_,?_,?_,?_,?_,?_,?_,h⟩ ?_
 ·simp [freezeE,killO,kill1,cleanV,updE,trimE_app,frzV,i64,envOf]
 ·simp [freezeE,killO,kill1,cleanV,updE,trimE_app,frzV,i64,envOf]
 ·simp [freezeE,killO,kill1,cleanV,updE,trimE_app,frzV,frzD,i64,iD]
 ·simp [freezeE,killO,kill1,cleanV,updE,trimE_app,frzV,i64]
 ·simp [freezeE,killO,kill1,cleanV,updE,trimE_app,frzV,frzV.go,frzD,i64,iD]
 ·have:((p.at_.toNat + 1:Nat):Int) - 1=p.at_:=by omega
  rw[this]
  simp [freezeE,killO,kill1,cleanV,updE,trimE_app,frzV,i64]
 ·rfl
 clear h
 rintro n1 e s ⟨j,m1,hn1,hj,h0,h1,h5,h6,h8,h9,rfl,hb⟩
 simp only[iD] at h5 h8
 have hlookG:=fun q f=>look_okS b a re ext p q f
 have hhead:∀{K:VL.Env→List VL.Obj→Prop},True:=fun {_}=>trivial
 cases hb with
 | behindNo hno =>
  have hlook:=hlookG .zero false
  unfold Smt.objs kO zeroS
  simp only[i64,bV,iD,List.map_cons,List.map_nil,SPlace.cells,SPlace.v,SPlace.zero,srV,capsO,SGoal.d] at hlook
  by_cases hz:j=0
  ·subst hz
   have h9:e 9=i64 (-1):=h9
   simp only[zX,Nat.reduceShiftRight,Nat.reduceMod,Nat.reduceLT,Nat.reduceMul,Nat.reduceSub,Int.reduceToNat,Int.reduceNeg,Int.reduceLT,Int.reduceLE,Int.reduceEq,Nat.reduceEqDiff,Nat.reduceAdd,Nat.reduceLeDiff,reduceIte,reduceCtorEq,Nat.reduceBEq,i64,bV,iD,srV,SPlace.v,SPlace.cells,List.map_cons,List.map_nil,List.cons_append,List.nil_append,ge_iff_le,h0,h1,h5,h6,h8,h9]
   refine call_pure hlook (by simp [refsV,refsV.go,reV_eq,i64,bV,reEl]) (by simp [refsV,refsV.go,reV_eq,i64,bV,reEl]) ?_
   unfold lookS
   simp only[zX,Nat.reduceShiftRight,Nat.reduceMod,Nat.reduceLT,Nat.reduceMul,Nat.reduceSub,Int.reduceToNat,Int.reduceNeg,Int.reduceLT,Int.reduceLE,Int.reduceEq,Nat.reduceEqDiff,Nat.reduceAdd,Nat.reduceLeDiff,reduceIte,reduceCtorEq,Nat.reduceBEq,i64,bV,iD,srV,SPlace.v,SPlace.cells,List.map_cons,List.map_nil,List.cons_append,List.nil_append,h0,h1,h5,h6,h8,h9]
   exact⟨hM,rfl⟩
  ·have hsp:m'.spent=true:=hno.resolve_left hz
   have l0:(0:Int)≤(j:Int) - 1:=by omega
   simp only[zX,Nat.reduceShiftRight,Nat.reduceMod,Nat.reduceLT,Nat.reduceMul,Nat.reduceSub,Int.reduceToNat,Int.reduceNeg,Int.reduceLT,Int.reduceLE,Int.reduceEq,Nat.reduceEqDiff,Nat.reduceAdd,Nat.reduceLeDiff,reduceIte,reduceCtorEq,Nat.reduceBEq,i64,bV,iD,srV,SPlace.v,SPlace.cells,List.map_cons,List.map_nil,List.cons_append,List.nil_append,ge_iff_le,h0,h1,h5,h6,h8,h9,l0,hsp,Bool.not_true]
   refine call_pure hlook (by simp [refsV,refsV.go,reV_eq,i64,bV,reEl]) (by simp [refsV,refsV.go,reV_eq,i64,bV,reEl]) ?_
   unfold lookS
   simp only[zX,Nat.reduceShiftRight,Nat.reduceMod,Nat.reduceLT,Nat.reduceMul,Nat.reduceSub,Int.reduceToNat,Int.reduceNeg,Int.reduceLT,Int.reduceLE,Int.reduceEq,Nat.reduceEqDiff,Nat.reduceAdd,Nat.reduceLeDiff,reduceIte,reduceCtorEq,Nat.reduceBEq,i64,bV,iD,srV,SPlace.v,SPlace.cells,List.map_cons,List.map_nil,List.cons_append,List.nil_append,h0,h1,h5,h6,h8,h9]
   exact⟨hM,rfl⟩
 | @behindYes _ k1 j _ _ _ _ _ q hk1 hs hf =>
  have hw:=ih _ (by omega) _ _ _ _ _ hf g b a
  have hF:=fun ext K=>SRun.callF hw rfl rfl (ext:=ext) (K:=K)
  have hput:=fun ext=>call_sm (put_okS g b a m1 kid [] (.here p.at_ p.caps p.todo .nil)) rfl rfl rfl ext
  have e9:((j + 1:Nat):Int) - 1=(j:Int):=by omega
  rw[e9] at h9
  have l0:(0:Int)≤(j:Int):=by omega
  unfold Smt.objs kO zeroS at *
  simp only[i64,bV,iD,List.map_cons,List.map_nil,SPlace.cells,SPlace.v,srV,SGoal.d,reP,List.append_nil,List.cons_append,List.nil_append,hs] at hput hF
  simp only[zX,Nat.reduceShiftRight,Nat.reduceMod,Nat.reduceLT,Nat.reduceMul,Nat.reduceSub,Int.reduceToNat,Int.reduceNeg,Int.reduceLT,Int.reduceLE,Int.reduceEq,Nat.reduceEqDiff,Nat.reduceAdd,Nat.reduceLeDiff,reduceIte,reduceCtorEq,Nat.reduceBEq,i64,bV,iD,srV,SPlace.v,SPlace.cells,List.map_cons,List.map_nil,List.cons_append,List.nil_append,ge_iff_le,h0,h1,h5,h6,h8,h9,l0,hs,Bool.not_false]
  refine draw_first (Cln0.reserve.trans Cln0.reserve) ?_
  refine draw_c mix [] [(2,[],[]),(3,[],[]),(7,[],[]),(8,[],[]),(9,[],[]),(12,[5],[5]),(13,[0,1,2,3,4,5],[5]),(15,[0,1,2],[0,1,2]),(19,[6],[6]),(20,[6],[6])] (by rfl) ?_
  simp only[zX,Nat.reduceShiftRight,Nat.reduceMod,Nat.reduceLT,Nat.reduceMul,Nat.reduceSub,Int.reduceToNat,Int.reduceNeg,Int.reduceLT,Int.reduceLE,Int.reduceEq,Nat.reduceEqDiff,Nat.reduceAdd,Nat.reduceLeDiff,reduceIte,reduceCtorEq,Nat.reduceBEq,i64,bV,iD,srV,SPlace.v,SPlace.cells,List.map_cons,List.map_nil,List.cons_append,List.nil_append,hrc,h0,h1,h5,h6,h8,h9,hk,l3,hole,List.length_cons,List.length_map]
  refine callF_pre (n:=6) (r:=.d ((SGoal.tree kid [] (SGoal.here p.at_ p.caps p.todo .nil)).d b a)) (os:=[⟨1,false,2,[[.d (.cl (.func 98) [] [.el [.sc (.int .i64 p.at_),capsO p.caps,p.todo.d b a]]),.d (.sc (.pointer none))]]⟩]) (s1:=m1.objs g b a++[kO b a p,zeroS,⟨1,false,2,[[.d (.cl (.func 98) [] [.el [.sc (.int .i64 p.at_),capsO p.caps,p.todo.d b a]]),.d (.sc (.pointer none))]]⟩]) (fun tl=>?_) (by decide) (by rfl) (fun tl=>by unfold Smt.objs kO zeroS; rw[hs]; rfl) ?_
  ··simp only[List.take,List.cons_append,List.nil_append]
    refine call_give [5] (by simp [killO,kill1,frzV.go,frzV,frzD]; rfl) ?_
    simp only[killO,kill1,List.getElem?_cons_zero,List.getElem?_cons_succ,List.set_cons_succ,List.set_cons_zero]
    refine callWp_mono (hput _) ?_
    rintro v s' ⟨rfl,rfl⟩
    refine⟨by simp only[SGoal.d,reP,List.append_nil,iD],?_⟩
    unfold Smt.objs kO zeroS; rw[hs]; rfl
  unfold Smt.objs kO zeroS
  simp only[zX,Nat.reduceShiftRight,Nat.reduceMod,Nat.reduceLT,Nat.reduceMul,Nat.reduceSub,Int.reduceToNat,Int.reduceNeg,Int.reduceLT,Int.reduceLE,Int.reduceEq,Nat.reduceEqDiff,Nat.reduceAdd,Nat.reduceLeDiff,reduceIte,reduceCtorEq,Nat.reduceBEq,i64,bV,iD,srV,SPlace.v,SPlace.cells,List.map_cons,List.map_nil,List.cons_append,List.nil_append,List.drop,h0,h1,h5,h6,h8,h9,hole,hs,SGoal.d,reP,List.append_nil]
  refine hF _ _ ?_
  simp only[zX,Nat.reduceShiftRight,Nat.reduceMod,Nat.reduceLT,Nat.reduceMul,Nat.reduceSub,Int.reduceToNat,Int.reduceNeg,Int.reduceLT,Int.reduceLE,Int.reduceEq,Nat.reduceEqDiff,Nat.reduceAdd,Nat.reduceLeDiff,reduceIte,reduceCtorEq,Nat.reduceBEq,i64,bV,iD,srV,SPlace.v,SPlace.cells,List.map_cons,List.map_nil,List.cons_append,List.nil_append,h0,h1,h5,h6,h8,h9,hole]
  have hlook:=hlookG q true
  simp only[i64,bV,iD,List.map_cons,List.map_nil,SPlace.cells,SPlace.v,srV,Bool.not_true] at hlook
  refine call_pure hlook (by simp [refsV,refsV.go,reV_eq,i64,bV,reEl]) (by simp [refsV,refsV.go,reV_eq,i64,bV,reEl]) ?_
  unfold lookS
  simp only[zX,Nat.reduceShiftRight,Nat.reduceMod,Nat.reduceLT,Nat.reduceMul,Nat.reduceSub,Int.reduceToNat,Int.reduceNeg,Int.reduceLT,Int.reduceLE,Int.reduceEq,Nat.reduceEqDiff,Nat.reduceAdd,Nat.reduceLeDiff,reduceIte,reduceCtorEq,Nat.reduceBEq,i64,bV,iD,srV,SPlace.v,SPlace.cells,List.map_cons,List.map_nil,List.cons_append,List.nil_append,h0,h1,h5,h6,h8,h9]
  first | exact hM | exact⟨hM,rfl⟩
 | @behindMore _ k1 k2 j _ m2 _ _ _ _ q _ _ hk1 hk2 hs hf h2 =>
  have hw:=ih _ (by omega) _ _ _ _ _ hf g b a
  have hF:=fun ext K=>SRun.callF hw rfl rfl (ext:=ext) (K:=K)
  have hput:=fun ext=>call_sm (put_okS g b a m1 kid [] (.here p.at_ p.caps p.todo .nil)) rfl rfl rfl ext
  have e9:((j + 1:Nat):Int) - 1=(j:Int):=by omega
  rw[e9] at h9
  have l0:(0:Int)≤(j:Int):=by omega
  unfold Smt.objs kO zeroS at *
  simp only[i64,bV,iD,List.map_cons,List.map_nil,SPlace.cells,SPlace.v,srV,SGoal.d,reP,List.append_nil,List.cons_append,List.nil_append,hs] at hput hF
  simp only[zX,Nat.reduceShiftRight,Nat.reduceMod,Nat.reduceLT,Nat.reduceMul,Nat.reduceSub,Int.reduceToNat,Int.reduceNeg,Int.reduceLT,Int.reduceLE,Int.reduceEq,Nat.reduceEqDiff,Nat.reduceAdd,Nat.reduceLeDiff,reduceIte,reduceCtorEq,Nat.reduceBEq,i64,bV,iD,srV,SPlace.v,SPlace.cells,List.map_cons,List.map_nil,List.cons_append,List.nil_append,ge_iff_le,h0,h1,h5,h6,h8,h9,l0,hs,Bool.not_false]
  refine draw_first (Cln0.reserve.trans Cln0.reserve) ?_
  refine draw_c mix [] [(2,[],[]),(3,[],[]),(7,[],[]),(8,[],[]),(9,[],[]),(12,[5],[5]),(13,[0,1,2,3,4,5],[5]),(15,[0,1,2],[0,1,2]),(19,[6],[6]),(20,[6],[6])] (by rfl) ?_
  simp only[zX,Nat.reduceShiftRight,Nat.reduceMod,Nat.reduceLT,Nat.reduceMul,Nat.reduceSub,Int.reduceToNat,Int.reduceNeg,Int.reduceLT,Int.reduceLE,Int.reduceEq,Nat.reduceEqDiff,Nat.reduceAdd,Nat.reduceLeDiff,reduceIte,reduceCtorEq,Nat.reduceBEq,i64,bV,iD,srV,SPlace.v,SPlace.cells,List.map_cons,List.map_nil,List.cons_append,List.nil_append,hrc,h0,h1,h5,h6,h8,h9,hk,l3,hole,List.length_cons,List.length_map]
  refine callF_pre (n:=6) (r:=.d ((SGoal.tree kid [] (SGoal.here p.at_ p.caps p.todo .nil)).d b a)) (os:=[⟨1,false,2,[[.d (.cl (.func 98) [] [.el [.sc (.int .i64 p.at_),capsO p.caps,p.todo.d b a]]),.d (.sc (.pointer none))]]⟩]) (s1:=m1.objs g b a++[kO b a p,zeroS,⟨1,false,2,[[.d (.cl (.func 98) [] [.el [.sc (.int .i64 p.at_),capsO p.caps,p.todo.d b a]]),.d (.sc (.pointer none))]]⟩]) (fun tl=>?_) (by decide) (by rfl) (fun tl=>by unfold Smt.objs kO zeroS; rw[hs]; rfl) ?_
  ··simp only[List.take,List.cons_append,List.nil_append]
    refine call_give [5] (by simp [killO,kill1,frzV.go,frzV,frzD]; rfl) ?_
    simp only[killO,kill1,List.getElem?_cons_zero,List.getElem?_cons_succ,List.set_cons_succ,List.set_cons_zero]
    refine callWp_mono (hput _) ?_
    rintro v s' ⟨rfl,rfl⟩
    refine⟨by simp only[SGoal.d,reP,List.append_nil,iD],?_⟩
    unfold Smt.objs kO zeroS; rw[hs]; rfl
  unfold Smt.objs kO zeroS
  simp only[zX,Nat.reduceShiftRight,Nat.reduceMod,Nat.reduceLT,Nat.reduceMul,Nat.reduceSub,Int.reduceToNat,Int.reduceNeg,Int.reduceLT,Int.reduceLE,Int.reduceEq,Nat.reduceEqDiff,Nat.reduceAdd,Nat.reduceLeDiff,reduceIte,reduceCtorEq,Nat.reduceBEq,i64,bV,iD,srV,SPlace.v,SPlace.cells,List.map_cons,List.map_nil,List.cons_append,List.nil_append,List.drop,h0,h1,h5,h6,h8,h9,hole,hs,SGoal.d,reP,List.append_nil]
  refine hF _ _ ?_
  simp only[zX,Nat.reduceShiftRight,Nat.reduceMod,Nat.reduceLT,Nat.reduceMul,Nat.reduceSub,Int.reduceToNat,Int.reduceNeg,Int.reduceLT,Int.reduceLE,Int.reduceEq,Nat.reduceEqDiff,Nat.reduceAdd,Nat.reduceLeDiff,reduceIte,reduceCtorEq,Nat.reduceBEq,i64,bV,iD,srV,SPlace.v,SPlace.cells,List.map_cons,List.map_nil,List.cons_append,List.nil_append,h0,h1,h5,h6,h8,h9,hole]
  refine⟨k2,_,_,by omega,Cln.cut (s':=m2.objs g b a++[kO b a p,zeroS]) 5 (by omega) rfl ?_ [0,1,5,6,8,9] ?_,j,m2,by omega,by omega,?_,?_,?_,?_,?_,?_,rfl,h2⟩ <;> (try simp only[zU,Nat.reduceBEq,Nat.reduceShiftRight,Nat.reduceMod,Nat.reduceEqDiff,reduceIte])
  ·rw[List.all_append,sobjs_all g b a m2 5 (by omega)]; rfl
  ·simp [updE,trimE_app,refsV,i64,h0,h1,h5,h6,h8,h9]
  ·exact h0
  ·rw[h1,hrc,hk]; rfl
  ·exact h5
  ·exact h6
  ·exact h8
  ·rw[w64 _ (by omega)]
end Go.Proofs.Ytpppfpaalcbggaa
