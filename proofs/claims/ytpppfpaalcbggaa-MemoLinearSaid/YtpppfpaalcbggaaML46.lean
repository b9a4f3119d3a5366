/- A part of the proof (S31 S32 S33). -/
import Derived.Test.YtpppfpaalcbggaaML45
set_option linter.unusedSimpArgs false
set_option linter.unusedVariables false
set_option maxRecDepth 100000
set_option maxHeartbeats 80000000
namespace Go.Proofs.Ytpppfpaalcbggaa
open Go.VL Go.Proofs.Try
def freshS (p:Pat) (t:List Int) (fuel:Int):Smt:=⟨p,t,[],0,0,0,0,fuel,false⟩
def newSO (p:Pat) (t:List Int) (fuel:Int):VL.Obj:=⟨0,true,8,[[.d (.el (patC p)),.d (intsD t),.mp 1 0,.fu [],i64 0,i64 0,i64 fuel,bV false]]⟩
theorem newMachine_own (p:Pat) (t:List Int) (fuel:Int):callWp prog 39 [.d (.el (patC p)),.d (intsD t),i64 fuel] [] fun v s=>v=.rf 0 0 0 0∧s=[newSO p t fuel,⟨0,true,2,opsE⟩]:=by
 refine fn_own func39 rfl ntmps39 results39 rfl 0 71 (by simp) (by simp) ?_
 simp only[zX,Nat.reduceShiftRight,Nat.reduceMod,Nat.reduceLT,Nat.reduceMul,Nat.reduceSub,Int.reduceToNat,Int.reduceNeg,Int.reduceLT,Int.reduceLE,Int.reduceEq,Nat.reduceEqDiff,Nat.reduceAdd,Nat.reduceLeDiff,reduceIte,reduceCtorEq,Nat.reduceBEq,i64,bV]
 refine callWp_mono ops_own (fun v s' hv=>?_); obtain⟨rfl,rfl⟩:=hv
 simp only[zX,Nat.reduceShiftRight,Nat.reduceMod,Nat.reduceLT,Nat.reduceMul,Nat.reduceSub,Int.reduceToNat,Int.reduceNeg,Int.reduceLT,Int.reduceLE,Int.reduceEq,Nat.reduceEqDiff,Nat.reduceAdd,Nat.reduceLeDiff,reduceIte,reduceCtorEq,Nat.reduceBEq,i64,bV,iD,Qown,ownWp]
 exact⟨[1,0],by decide,rfl,rfl⟩
def sO1 (Y Z:Nat) (m:Smt):VL.Obj:=⟨0,true,8,[[.d (.el (patC m.p)),.d (intsD m.t),.mp Y 0,.so Z m.gen 0 m.top,i64 m.start,i64 m.steps,i64 m.fuel,bV m.spent]]⟩
def sO2:VL.Obj:=⟨0,true,2,opsE⟩
def sO3 (b a:Nat) (m:Smt):VL.Obj:=⟨m.gen,true,3,m.stk.map fun p=>(p.cells b a).map .d⟩
theorem sobjs_ren (X Y Z b a:Nat) (m:Smt):(m.objs 0 b a).map (renO [X,Y,Z])=[sO1 Y Z m,sO2,sO3 b a m]:=by
 unfold Smt.objs sO1 sO2 sO3
 simp only[List.map_cons,List.map_nil,List.cons.injEq,and_true]
 refine⟨?_,?_,?_⟩
 ·unfold renO
  simp [renV.go,renV,i64,bV]
  rfl
 ·rfl
 ·unfold renO
  simp only[List.map_map]
  congr 1
theorem call_sx {f:FuncId} {cargs args:List V} {r r':V} {m m':Smt} {X Y Z b a:Nat} {s:List VL.Obj} {K:V→List VL.Obj→Prop} (h:callWp prog f cargs (m.objs 0 b a) fun v s=>v=r∧s=m'.objs 0 b a)
  (hnd:[X,Y,Z].Nodup) (hX:s[X]?=some (sO1 Y Z m)) (hY:s[Y]?=some sO2) (hZ:s[Z]?=some (sO3 b a m)) (ha:args=cargs.map (renV [X,Y,Z])) (hra:refsV.go 3 cargs=true) (hr:renV [X,Y,Z] r=r')
  (hk:K r' (((s.set X (sO1 Y Z m')).set Y sO2).set Z (sO3 b a m'))):callWp prog f args s K:=by
 refine call_map [X,Y,Z] h hnd (by rfl) ?_ ha hra (sobjs_all 0 b a m 3 (Nat.le_refl _)) hr ?_
 ·have e:(m.objs 0 b a).map (fun o=>some (renO [X,Y,Z] o))=((m.objs 0 b a).map (renO [X,Y,Z])).map some:=by rw[List.map_map]; rfl
  rw[e,sobjs_ren]
  simp only[List.map_cons,List.map_nil,hX,hY,hZ]
 ·rw[sobjs_ren]
  exact hk
def newSPre (p:Pat) (t:List Int) (Y:Nat):List V:=[.d (.el (patC p)),.d (intsD t),.mp Y 0]
def newSPost (fuel:Int):List V:=[i64 0,i64 0,i64 fuel,bV false]
theorem call_newS {p:Pat} {t:List Int} {fuel:Int} {s:List VL.Obj} {K:V→List VL.Obj→Prop}
  (hk:∀b a:Nat,K (.pp s.length 0 0 0 b a) (s++[sO1 (s.length + 1) (s.length + 2) (freshS p t fuel),sO2,sO3 b a (freshS p t fuel)])):callWp prog 39 [.d (.el (patC p)),.d (intsD t),i64 fuel] s K:=by
 have h1:callWp prog 39 [.d (.el (patC p)),.d (intsD t),i64 fuel] s fun v s1=>v=.rf s.length 0 0 0∧s1=s++[⟨0,true,8,[newSPre p t (s.length + 1)++.fu []::newSPost fuel]⟩,sO2]:=by
  refine call_frame_new (newMachine_own p t fuel) [] rfl (by simp) (fun k o h=>by simp at h) rfl rfl rfl ?_
  rintro v s' ⟨rfl,rfl⟩ _
  refine⟨?_,?_⟩
  ·simp [rhoN,renV,renV.go,i64]
  ·simp only[List.take,List.drop,List.length_nil,List.map_nil,putObjs,List.map_cons]
   congr 1
 refine callWp_post h1 ?_
 rintro v s1 ⟨rfl,rfl⟩ σ w u hI hu
 have hX:(s++[(⟨0,true,8,[newSPre p t (s.length + 1)++.fu []::newSPost fuel]⟩:VL.Obj),sO2])[s.length]?=some ⟨0,true,8,[newSPre p t (s.length + 1)++.fu []::newSPost fuel]⟩:=by simp
 obtain⟨b,a,hpp⟩:=RepV.rf_pp hX rfl hu
 obtain⟨σ1,e1,i1⟩:=reserve_ok hI s.length 3 hX (pre:=newSPre p t (s.length + 1)) (post:=newSPost fuel) rfl rfl
 have hs1:(s++[(⟨0,true,8,[newSPre p t (s.length + 1)++.fu []::newSPost fuel]⟩:VL.Obj),sO2]).set s.length ⟨0,true,8,[newSPre p t (s.length + 1)++V.so (s++[(⟨0,true,8,[newSPre p t (s.length + 1)++.fu []::newSPost fuel]⟩:VL.Obj),sO2]).length 0 0 0::newSPost fuel]⟩++[⟨0,true,3,[]⟩]
   = s++[sO1 (s.length + 1) (s.length + 2) (freshS p t fuel),sO2,sO3 b a (freshS p t fuel)]:=by
  rw[List.set_append_right _ _ (Nat.le_refl _),Nat.sub_self,List.length_append]
  simp [sO1,sO3,freshS,newSPre,newSPost]
 rw[hs1] at e1 i1
 exact⟨σ1,_,_,e1,i1,hpp.evolve e1,hk b a⟩
def Smt.startP (m:Smt) (at_:Int):SPlace:=⟨at_,some (List.replicate 9 (-1,-1)),.tree m.p.re [iD m.p.caps,bD m.p.runes] .nil⟩
def Smt.begin (m:Smt) (at_:Int):Smt:={ m with stk:=[m.startP at_],top:=1,gen:=m.gen + 1,start:=at_ }
def capI (i:Nat):CapsL:=List.replicate i (-1,-1)++List.replicate (9 - i) (0,0)
theorem capI_set {i:Nat} (h:i < 9):(capI i).set i (-1,-1)=capI (i + 1):=by
 have:i=0∨i=1∨i=2∨i=3∨i=4∨i=5∨i=6∨i=7∨i=8:=by omega
 rcases this with rfl | rfl | rfl | rfl | rfl | rfl | rfl | rfl | rfl <;> rfl
theorem capI_len {i:Nat} (h:i≤9):(capI i).length=9:=by unfold capI; rw[List.length_append,List.length_replicate,List.length_replicate]; omega
theorem putF' (g b a:Nat) (m:Smt) (re:Re) (ex:List D) (next:SGoal) {ext:List VL.Obj} {K:V→List VL.Obj→Prop} (hk:K (.d ((SGoal.tree re ex next).d b a)) (m.objs g b a++ext)) :
  callF prog [0,1,2] [] 63 [.pp 0 g 0 0 b a,.d (reP re ex),.d (next.d b a)] (m.objs g b a++ext) K:=by
 refine⟨.d ((SGoal.tree re ex next).d b a),[],rfl,fun s' hl hr=>?_,hk⟩
 have e:=split3 hl hr
 have hp:=call_sm (put_okS g b a m re ex next) rfl rfl rfl (s'.drop 3)
 rw[← e] at hp
 exact hp
theorem begin_okS (g b a:Nat) (m:Smt) (at_:Int) (hgen:m.top≤m.stk.length):callWp prog 40 [.pp 0 g 0 0 b a,i64 at_] (m.objs g b a) fun v s=>v=.tu []∧s=(m.begin at_).objs g b a:=by
 have hM:=sobj_ok (m.begin at_) b a 3
 unfold Smt.objs
 refine fn_ok func40 rfl ntmps40 results40 rfl 3 307 (by simp) (by simp) ?_
 simp only[zX,Nat.reduceShiftRight,Nat.reduceMod,Nat.reduceLT,Nat.reduceMul,Nat.reduceSub,Int.reduceToNat,Int.reduceNeg,Int.reduceLT,Int.reduceLE,Int.reduceEq,Nat.reduceEqDiff,Nat.reduceAdd,Nat.reduceLeDiff,reduceIte,reduceCtorEq,Nat.reduceBEq,i64,bV,iD]
 refine loop_rule (fun n e s=>∃i:Nat,n=9 - i∧i≤9∧e 0=.pp 0 g 0 0 b a∧e 1=i64 at_∧e 4=.rf 3 0 0 0∧e 8=i64 i∧s=m.objs g b a++[⟨0,true,18,[((capI i).flatMap fun p=>[iD p.1,iD p.2]).map .d]⟩])
  ⟨_,_,_,Cln.refl,0,rfl,by omega,rfl,rfl,rfl,rfl,rfl⟩ ?_
 rintro n e s ⟨i,rfl,hi,h0,h1,h4,h8,rfl⟩
 unfold Smt.objs at *
 rcases Nat.lt_or_ge i 9 with hlt | hge
 ·have hput:=put_flat (c:=capI i) (k:=i) (by rw[capI_len hi]; exact hlt) (-1,-1)
  rw[capI_set hlt] at hput
  have hcl:=flat_len (capI_len hi)
  generalize ((capI i).flatMap fun p=>[iD p.1,iD p.2])=C at *
  have n0:(0:Int)≤(i:Int):=by omega
  have n9:(i:Int) < ((9:Nat):Int):=by omega
  have n18:i * 2≤16:=by omega
  have hlt':(i:Int) < 9:=by omega
  unfold putCells at hput
  simp only[iD,List.length_cons,List.length_nil,Nat.zero_add,Nat.reduceAdd] at hput
  simp only[zX,Nat.reduceShiftRight,Nat.reduceMod,Nat.reduceLT,Nat.reduceMul,Nat.reduceSub,Int.reduceToNat,Int.reduceNeg,Int.reduceLT,Int.reduceLE,Int.reduceEq,Nat.reduceEqDiff,Nat.reduceAdd,Nat.reduceLeDiff,reduceIte,reduceCtorEq,Nat.reduceBEq,i64,bV,iD,h0,h1,h4,h8,List.cons_append,List.nil_append,hlt',List.length_map,hcl,n0,n9,n18,Int.toNat_natCast,Nat.zero_add,hput]
  refine⟨9 - (i + 1),_,_,by omega,Cln.refl,i + 1,rfl,hlt,?_,?_,?_,?_,rfl⟩ <;> (try simp only[zU,Nat.reduceBEq,Nat.reduceShiftRight,Nat.reduceMod,Nat.reduceEqDiff,reduceIte])
  ·exact h0
  ·exact h1
  ·exact h4
  ·rw[w64 _ (by omega)]; rfl
 ·have hie:i=9:=by omega
  subst hie
  have h8:e 8=i64 9:=h8
  have hc9:((capI 9).flatMap fun p=>[iD p.1,iD p.2])=((List.replicate 9 ((-1,-1):Int × Int)).flatMap fun p=>[iD p.1,iD p.2]):=rfl
  rw[hc9]
  have hput:=fun ext K=>putF' g b a { m with start:=at_ } m.p.re [iD m.p.caps,bD m.p.runes] .nil (ext:=ext) (K:=K)
  have hcap:capsO (some (List.replicate 9 ((-1,-1):Int × Int)))=.el ((List.replicate 9 ((-1,-1):Int × Int)).flatMap fun p=>[iD p.1,iD p.2]):=rfl
  generalize ((List.replicate 9 ((-1,-1):Int × Int)).flatMap fun p=>[iD p.1,iD p.2])=C at *
  have hz:=fun (lim:Nat) (s:List VL.Obj)=>mapM_frzD 6 lim s C
  unfold Smt.objs at hput
  simp only[i64,bV,iD,bD,List.map_cons,List.map_nil,SPlace.cells,reP,SGoal.d,List.append_nil,List.cons_append,List.nil_append] at hput
  have hpc:Smt.objs.patC0 m.p=m.p.re.cells++[iD m.p.caps,bD m.p.runes]:=rfl
  simp only[zX,Nat.reduceShiftRight,Nat.reduceMod,Nat.reduceLT,Nat.reduceMul,Nat.reduceSub,Int.reduceToNat,Int.reduceNeg,Int.reduceLT,Int.reduceLE,Int.reduceEq,Nat.reduceEqDiff,Nat.reduceAdd,Nat.reduceLeDiff,reduceIte,reduceCtorEq,Nat.reduceBEq,i64,bV,iD,bD,h0,h1,h4,h8,List.cons_append,List.nil_append,Int.lt_irrefl]
  refine draw_first (Cln0.frz1 [3] 4 (v:=.d (.el C)) (by simp [updE,killO,kill1,frzV,h4,trimE_app,frzD,-List.mapM_map,mapM_frzD])) ?_
  simp only[killO,kill1,List.getElem?_cons_zero,List.getElem?_cons_succ,List.set_cons_succ,List.set_cons_zero]
  refine draw_c mix [] [(2,[0],[]),(3,[0],[]),(4,[0],[]),(5,[2],[]),(10,[0],[]),(11,[0],[]),(12,[0],[]),(15,[0,1,2],[]),(18,[2],[2]),(19,[0],[]),(20,[0],[]),(21,[0],[0])] (by rfl) ?_
  simp only[zX,Nat.reduceShiftRight,Nat.reduceMod,Nat.reduceLT,Nat.reduceMul,Nat.reduceSub,Int.reduceToNat,Int.reduceNeg,Int.reduceLT,Int.reduceLE,Int.reduceEq,Nat.reduceEqDiff,Nat.reduceAdd,Nat.reduceLeDiff,reduceIte,reduceCtorEq,Nat.reduceBEq,i64,bV,iD,bD,h0,h1,h4,h8,List.cons_append,List.nil_append,Nat.zero_add,hgen,hpc,List.length_take,List.length_map]
  simp only[hpc,iD,bD] at hput
  refine hput _ _ ?_
  simp only[zX,Nat.reduceShiftRight,Nat.reduceMod,Nat.reduceLT,Nat.reduceMul,Nat.reduceSub,Int.reduceToNat,Int.reduceNeg,Int.reduceLT,Int.reduceLE,Int.reduceEq,Nat.reduceEqDiff,Nat.reduceAdd,Nat.reduceLeDiff,reduceIte,reduceCtorEq,Nat.reduceBEq,i64,bV,iD,bD,h0,h1,h4,h8,List.cons_append,List.nil_append,List.length_map,Nat.zero_add]
  simp only[Int.sub_self,Int.toNat_zero,List.take_zero,List.nil_append]
  refine⟨rfl,by simp,⟨by omega,by omega⟩,?_,?_⟩
  ·rfl
  ·unfold Smt.begin Smt.startP
   simp only[List.map_cons,List.map_nil,SPlace.cells,hcap,SGoal.d,reP,iD,bD,hpc,Nat.zero_add]
theorem chunk_caps (c:CapsL):∀(l n:Nat),l + n≤c.length→chunkL (c.flatMap fun p=>[iD p.1,iD p.2]) 2 l n=((c.drop l).take n).map spanC:=by
 intro l n
 induction n generalizing l with
 | zero=>intro _; simp [chunkL]
 | succ n ih =>
  intro h
  have hx:c[l]?=some (c[l]'(by omega)):=List.getElem?_eq_getElem (by omega)
  have h1:=ih (l + 1) (by omega)
  unfold chunkL at h1 ⊢
  have hdr:c.drop l=c[l]'(by omega)::c.drop (l + 1):=List.drop_eq_getElem_cons (by omega)
  rw[List.range_succ_eq_map,List.map_cons,List.map_map,hdr,List.take_succ_cons,List.map_cons,← h1]
  congr 1
  ·obtain⟨tl,hd⟩:=flat_at hx
   rw[Nat.mul_comm] at hd
   rw[Nat.add_zero,hd]
   rfl
  ·refine List.map_congr_left fun i _=>?_
   simp only[Function.comp_apply]
   rw[show l + (i + 1)=l + 1 + i by omega]
theorem next_no (g b a:Nat) {m m':Smt} {r:SPlace} (h:STask.wp g b a m m' r false (.search 0)):callWp prog 41 [.pp 0 g 0 0 b a] (m.objs g b a) fun v s=>v=.tu [.ag [i64 0,i64 0,.d (.sl [])],bV false]∧s=m'.objs g b a:=by
 have hs:=fun ex=>SRun.ext h rfl rfl ex
 have hM:=sobj_ok m' b a 3
 unfold Smt.objs at *
 simp only[i64,bV,iD,srV,SPlace.v,SPlace.cells,List.map_cons,List.map_nil] at hs
 refine fn_ok func41 rfl ntmps41 results41 rfl 3 125 (by simp) (by simp) ?_
 simp only[zX,Nat.reduceShiftRight,Nat.reduceMod,Nat.reduceLT,Nat.reduceMul,Nat.reduceSub,Int.reduceToNat,Int.reduceNeg,Int.reduceLT,Int.reduceLE,Int.reduceEq,Nat.reduceEqDiff,Nat.reduceAdd,Nat.reduceLeDiff,reduceIte,reduceCtorEq,Nat.reduceBEq,i64,bV,iD]
 refine callWp_mono (hs _) (fun v s' hv=>?_); obtain⟨rfl,rfl⟩:=hv
 simp only[zX,Nat.reduceShiftRight,Nat.reduceMod,Nat.reduceLT,Nat.reduceMul,Nat.reduceSub,Int.reduceToNat,Int.reduceNeg,Int.reduceLT,Int.reduceLE,Int.reduceEq,Nat.reduceEqDiff,Nat.reduceAdd,Nat.reduceLeDiff,reduceIte,reduceCtorEq,Nat.reduceBEq,i64,bV,iD,List.cons_append,List.nil_append,Bool.not_false]
 first | exact hM | exact⟨hM,rfl⟩
theorem next_yes (g b a:Nat) {m m':Smt} {r:SPlace} {c:CapsL} (h:STask.wp g b a m m' r true (.search 0)) (hc:r.caps=some c) (hl:c.length=9) (h0:0≤m'.p.caps) (h1:m'.p.caps≤9):callWp prog 41 [.pp 0 g 0 0 b a] (m.objs g b a) fun v s=>v=.tu [.ag [i64 m'.start,i64 r.at_,.d (capD (c.take m'.p.caps.toNat))],bV true]∧s=m'.objs g b a:=by
 have hs:=fun ex=>SRun.ext h rfl rfl ex
 have hM:=sobj_ok m' b a 3
 have hcl:=cloneCaps_ok (c.take m'.p.caps.toNat) (by rw[List.length_take]; omega)
 have hch:=chunk_caps c 0 m'.p.caps.toNat (by omega)
 rw[List.drop_zero] at hch
 have hc9:capsO r.caps=.el (c.flatMap fun p=>[iD p.1,iD p.2]):=by rw[hc]; rfl
 have h18:=flat_len hl
 generalize (c.flatMap fun p=>[iD p.1,iD p.2])=C at *
 have hpc:Smt.objs.patC0 m'.p=[iD m'.p.re.op,.sl (m'.p.re.set.map spanC),.sl (m'.p.re.kids.map Re.cells),iD m'.p.re.mn,iD m'.p.re.mx,iD m'.p.re.mode,iD m'.p.re.n,bD m'.p.re.neg,iD m'.p.caps,bD m'.p.runes]:=by
  show m'.p.re.cells++_=_
  rw[Re.cells_eq]; rfl
 have h9:m'.p.caps≤((9:Nat):Int):=by omega
 unfold Smt.objs at *
 simp only[i64,bV,iD,srV,SPlace.v,SPlace.cells,List.map_cons,List.map_nil,hc9] at hs
 refine fn_ok func41 rfl ntmps41 results41 rfl 3 125 (by simp) (by simp) ?_
 simp only[zX,Nat.reduceShiftRight,Nat.reduceMod,Nat.reduceLT,Nat.reduceMul,Nat.reduceSub,Int.reduceToNat,Int.reduceNeg,Int.reduceLT,Int.reduceLE,Int.reduceEq,Nat.reduceEqDiff,Nat.reduceAdd,Nat.reduceLeDiff,reduceIte,reduceCtorEq,Nat.reduceBEq,i64,bV,iD]
 refine callWp_mono (hs _) (fun v s' hv=>?_); obtain⟨rfl,rfl⟩:=hv
 simp only[zX,Nat.reduceShiftRight,Nat.reduceMod,Nat.reduceLT,Nat.reduceMul,Nat.reduceSub,Int.reduceToNat,Int.reduceNeg,Int.reduceLT,Int.reduceLE,Int.reduceEq,Nat.reduceEqDiff,Nat.reduceAdd,Nat.reduceLeDiff,reduceIte,reduceCtorEq,Nat.reduceBEq,i64,bV,iD,List.cons_append,List.nil_append,Bool.not_true]
 refine draw_c mix [] [] (by rfl) ?_
 simp only[zX,Nat.reduceShiftRight,Nat.reduceMod,Nat.reduceLT,Nat.reduceMul,Nat.reduceSub,Int.reduceToNat,Int.reduceNeg,Int.reduceLT,Int.reduceLE,Int.reduceEq,Nat.reduceEqDiff,Nat.reduceAdd,Nat.reduceLeDiff,reduceIte,reduceCtorEq,Nat.reduceBEq,i64,bV,iD,bD,List.cons_append,List.nil_append,hpc]
 refine⟨⟨⟨h0,h9⟩,h18⟩,?_⟩
 rw[Int.sub_zero,hch]
 unfold capD at hcl
 refine callC_pure hcl rfl rfl ?_
 simp only[zX,Nat.reduceShiftRight,Nat.reduceMod,Nat.reduceLT,Nat.reduceMul,Nat.reduceSub,Int.reduceToNat,Int.reduceNeg,Int.reduceLT,Int.reduceLE,Int.reduceEq,Nat.reduceEqDiff,Nat.reduceAdd,Nat.reduceLeDiff,reduceIte,reduceCtorEq,Nat.reduceBEq,i64,bV,iD,bD,List.cons_append,List.nil_append]
 refine draw_c mix [] [(3,[0],[]),(5,[4],[]),(8,[3],[3])] (by rfl) ?_
 simp only[zX,Nat.reduceShiftRight,Nat.reduceMod,Nat.reduceLT,Nat.reduceMul,Nat.reduceSub,Int.reduceToNat,Int.reduceNeg,Int.reduceLT,Int.reduceLE,Int.reduceEq,Nat.reduceEqDiff,Nat.reduceAdd,Nat.reduceLeDiff,reduceIte,reduceCtorEq,Nat.reduceBEq,i64,bV,iD,bD,List.cons_append,List.nil_append,capD]
 exact⟨hM,rfl⟩
inductive DrainS:Nat→Smt→Smt→Prop where
 | stop {n k:Nat} {m m':Smt} {r:SPlace} (h:SEv k (.search 0) m m' r false):DrainS n m m'
 | more {n n' k:Nat} {m m1 m':Smt} {r:SPlace} (hn:n' < n) (h:SEv k (.search 0) m m1 r true) (h2:DrainS n' m1 m'):DrainS n m m'
end Go.Proofs.Ytpppfpaalcbggaa
