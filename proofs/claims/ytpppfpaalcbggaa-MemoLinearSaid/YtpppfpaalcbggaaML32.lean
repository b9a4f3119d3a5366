/- A part of the proof (MM19 MM20). -/
import Derived.Test.YtpppfpaalcbggaaML31
set_option linter.unusedSimpArgs false
set_option linter.unusedVariables false
set_option maxRecDepth 100000
set_option maxHeartbeats 80000000
namespace Go.Proofs.Ytpppfpaalcbggaa
open Go.VL
def depB (re:Re):Bool:=!decide (bitV .and .i64 (re.usesA 0) 3=0)
def freshM (p:Pat) (t:List Int) (fuel:Int):Mm:=⟨(numR p.re 0).1,t,[],[],0,0,-1,0,fuel,false,depB p.re,[]⟩
theorem newMachineM_own (p:Pat) (t:List Int) (fuel:Int) (hf:p.re.fine=true) (hev:p.re.every repB=true) (hsz:p.re.size≤1000000000) :
  callWp Try.prog 26 [.d (.el (patC p)),.d (intsD t),i64 fuel] [] fun v s=>v=.rf 0 0 0 0∧s=(freshM p t fuel).objs:=by
 have hnum:=number_ok p.re hf hev 0 (by omega) (by omega)
 have hus:=uses_ok p.re hf
 have hpc:patC p=[iD p.re.op,.sl (p.re.set.map spanC),.sl (p.re.kids.map Re.cells),iD p.re.mn,iD p.re.mx,iD p.re.mode,iD p.re.n,bD p.re.neg,iD p.caps,bD p.runes]:=patC_eq p
 rw[reV_eq] at hus
 simp only[i64,iD,bD] at hus
 rw[hpc]
 generalize hR:(numR p.re 0).1=root at *
 refine fn_own Try.func26 rfl Try.ntmps26 Try.results26 rfl 0 967 (by simp) (by simp) ?_
 simp only[zX,Nat.reduceShiftRight,Nat.reduceMod,Nat.reduceLT,Nat.reduceMul,Nat.reduceSub,Int.reduceToNat,Int.reduceNeg,Int.reduceLT,Int.reduceLE,Int.reduceEq,Nat.reduceEqDiff,Nat.reduceAdd,Nat.reduceLeDiff,reduceIte,reduceCtorEq,Nat.reduceBEq,i64,bV,iD,bD]
 have hw:∀K,(∀v s,(v=.d root.d∧s=[mcntO (numR p.re 0).2])→K v s)→callWp Try.prog 53 [.d (.el [iD p.re.op,.sl (p.re.set.map spanC),.sl (p.re.kids.map Re.cells),iD p.re.mn,iD p.re.mx,iD p.re.mode,iD p.re.n,bD p.re.neg,iD p.caps,bD p.runes]),.rf 0 0 0 0] [mcntO 0] K:=fun K hk=>by
  have h:=call_weak (ex:=[iD p.caps,bD p.runes]) (callWp_mono hnum hk)
  rw[Re.cells_eq p.re] at h
  exact h
 unfold mcntO at hw
 simp only[iD,bD] at hw
 refine hw _ (fun v s' hv=>?_); obtain⟨rfl,rfl⟩:=hv
 have hcm:∀id g,cellsV (.mp id g)=some [.mp id g]:=fun _ _=>rfl
 have hcc:∀fn a b,cellsV (.cl fn a b)=some [.cl fn a b]:=fun _ _ _=>rfl
 simp only[zX,Nat.reduceShiftRight,Nat.reduceMod,Nat.reduceLT,Nat.reduceMul,Nat.reduceSub,Int.reduceToNat,Int.reduceNeg,Int.reduceLT,Int.reduceLE,Int.reduceEq,Nat.reduceEqDiff,Nat.reduceAdd,Nat.reduceLeDiff,reduceIte,reduceCtorEq,Nat.reduceBEq,i64,bV,iD,bD,hcm,hcc]
 refine draw_first (reserveCell (pre:=[.d root.d,.d (intsD t),.mp 3 0]) (post:=[i64 (-1),i64 0,i64 fuel,bV false,bV false,.mp 4 0,.d (.sc .nilFunc)]) 1 11 (by rfl) (by rfl) (by rfl)) ?_
 refine draw_c mix [] [(8,[1],[]),(9,[1],[]),(10,[1],[1])] (by rfl) ?_
 simp only[zX,Nat.reduceShiftRight,Nat.reduceMod,Nat.reduceLT,Nat.reduceMul,Nat.reduceSub,Int.reduceToNat,Int.reduceNeg,Int.reduceLT,Int.reduceLE,Int.reduceEq,Nat.reduceEqDiff,Nat.reduceAdd,Nat.reduceLeDiff,reduceIte,reduceCtorEq,Nat.reduceBEq,i64,bV,iD,bD,hcm,hcc]
 refine callC_pure hus rfl rfl ?_
 simp only[zX,Nat.reduceShiftRight,Nat.reduceMod,Nat.reduceLT,Nat.reduceMul,Nat.reduceSub,Int.reduceToNat,Int.reduceNeg,Int.reduceLT,Int.reduceLE,Int.reduceEq,Nat.reduceEqDiff,Nat.reduceAdd,Nat.reduceLeDiff,reduceIte,reduceCtorEq,Nat.reduceBEq,i64,bV,iD,bD,hcm,hcc,Qown,ownWp]
 refine⟨[1,2,7,3,4,6,5],by decide,rfl,?_⟩
 unfold freshM depB
 rw[hR]
 trace_state
 rfl
def caps0:CapsL:=List.replicate 9 (-1,-1)
abbrev RunR:=Option (Int × Int × CapsL) × Int × Int
def runM (k:Nat) (p:Pat) (t:List Int) (at_ fuel:Int):Option RunR :=
 if checkM p t at_ fuel≠0 then some (none,0,checkM p t at_ fuel)
 else match firstM (fun m base p=>srchM k true m base p true) (freshM p t fuel) ⟨at_,some caps0,.mk 0 (some (numR p.re 0).1) 0 0 0 .nil⟩ (-1) with
 | none=>none
 | some (m,q,found) =>
  if m.spent=true then some (none,0,11)
  else if found=false then some (none,m.steps,0)
  else match q.caps with
  | none=>none
  | some c=>if p.caps < 0∨9 < p.caps∨c.length≠9 then none else some (some (at_,q.at_,c.take p.caps.toNat),m.steps,0)
def runMV:RunR→V
 |(none,n,e)=>.tu [.ag [i64 0,i64 0,.d (.sl [])],bV false,i64 n,i64 e]
 |(some (s,en,c),n,e)=>.tu [.ag [i64 s,i64 en,.d (capD c)],bV true,i64 n,i64 e]
def capC (i:Nat):List V:=List.replicate (2 * i) (i64 (-1))++List.replicate (18 - 2 * i) (i64 0)
theorem mm_ren2 (m:Mm):m.objs.map (renO [2,3,4,5,6,7,8]) =
 [⟨0,true,11,[[.d m.root.d,.d (intsD m.t),.mp 5 0,.so 8 m.gen 0 m.top,i64 m.stop,i64 m.steps,i64 m.fuel,bV m.spent,bV m.depends,.mp 6 0,.cl (.func 54) [] [.rf 3 0 0 0,.rf 4 0 0 0]]]⟩,
  ⟨0,true,1,[[.rf 2 0 0 0]]⟩,⟨0,true,1,[[.mp 7 0]]⟩,⟨0,true,2,failE m.failed⟩,⟨0,true,2,frmE m.frames⟩,⟨0,true,2,[]⟩,⟨m.gen,true,11,m.stk.map stM⟩]:=by
 unfold Mm.objs renO
 simp only[List.map_cons,List.map_nil,failE,frmE,rows_ren,stM_ren]
 simp [renV.go,renV,i64,bV]
theorem pair_len (l:CapsL) (h:l.length=9):(l.flatMap fun x=>[D.sc (.int .i64 x.1),D.sc (.int .i64 x.2)]).length=18:=by
 have:∀l:CapsL,(l.flatMap fun x=>[D.sc (.int .i64 x.1),D.sc (.int .i64 x.2)]).length=2 * l.length:=fun l=>by
  induction l with
  | nil=>rfl
  | cons x l ih=>simp only[List.flatMap_cons,List.length_append,ih,List.length_cons,List.length_nil]; omega
 rw[this,h]
theorem pair_at:∀(l:CapsL) (i:Nat) (x:Int × Int),l[i]?=some x→((l.flatMap fun x=>[D.sc (.int .i64 x.1),D.sc (.int .i64 x.2)]).drop (i * 2)).take 2=spanC x
 | [],i,x,h=>by simp at h
 | y::l,0,x,h=>by
  simp only[List.getElem?_cons_zero,Option.some.injEq] at h
  subst h
  rfl
 | y::l,i + 1,x,h=>by
  have:=pair_at l i x (by simpa using h)
  rw[List.flatMap_cons,show (i + 1) * 2=i * 2 + 2 by omega]
  exact this
theorem pair_chunk (l:CapsL) {n:Nat} (h:n≤l.length):chunkL (l.flatMap fun x=>[D.sc (.int .i64 x.1),D.sc (.int .i64 x.2)]) 2 0 n=(l.take n).map spanC:=by
 apply List.ext_getElem?
 intro i
 unfold chunkL
 rw[List.getElem?_map,List.getElem?_map]
 by_cases hi:i < n
 ·obtain⟨x,hx⟩:∃x,l[i]?=some x:=⟨_,List.getElem?_eq_getElem (by omega)⟩
  rw[List.getElem?_range hi,List.getElem?_take_of_lt hi,hx,Option.map_some,Option.map_some,Nat.zero_add,pair_at l i x hx]
 ·rw[List.getElem?_eq_none (by simpa using hi),List.getElem?_eq_none (by simp; omega)]
  rfl
theorem memoRun_ok (k:Nat) (p:Pat) (t:List Int) (at_ fuel:Int) (hf:p.re.fine=true) (hev:p.re.every repB=true) (hsz:p.re.size≤1000000000) (ht:t.length≤1000000000) {x:RunR} (hx:runM k p t at_ fuel=some x) :
  PureOK Try.prog 12 [.ag ((patC p).map .d),.d (intsD t),i64 at_,i64 fuel] (runMV x):=by
 have hck:=mcheck_ok p t at_ fuel hf ht
 have hnew:=newMachineM_own p t fuel hf hev hsz
 unfold runM at hx
 generalize checkM p t at_ fuel=ck at *
 have hpc:=patC_eq p
 rw[hpc] at hck hnew ⊢
 simp only[iD,bD,i64,List.map_cons,List.map_nil] at hck hnew
 refine fn_ok Try.func12 rfl Try.ntmps12 Try.results12 rfl 0 4295229215 (by simp) (by simp) ?_
 simp only[zX,Nat.reduceShiftRight,Nat.reduceMod,Nat.reduceLT,Nat.reduceMul,Nat.reduceSub,Int.reduceToNat,Int.reduceNeg,Int.reduceLT,Int.reduceLE,Int.reduceEq,Nat.reduceEqDiff,Nat.reduceAdd,Nat.reduceLeDiff,reduceIte,reduceCtorEq,Nat.reduceBEq,i64,bV,iD,bD,List.map_cons,List.map_nil]
 refine call_pure hck rfl rfl ?_
 by_cases c:ck=0
 case neg =>
  rw[if_pos c] at hx
  cases hx
  simp only[zX,Nat.reduceShiftRight,Nat.reduceMod,Nat.reduceLT,Nat.reduceMul,Nat.reduceSub,Int.reduceToNat,Int.reduceNeg,Int.reduceLT,Int.reduceLE,Int.reduceEq,Nat.reduceEqDiff,Nat.reduceAdd,Nat.reduceLeDiff,reduceIte,reduceCtorEq,Nat.reduceBEq,i64,bV,iD,bD,c,ne_eq,not_false_eq_true]
  rfl
 rw[if_neg (fun h=>h c)] at hx
 simp only[zX,Nat.reduceShiftRight,Nat.reduceMod,Nat.reduceLT,Nat.reduceMul,Nat.reduceSub,Int.reduceToNat,Int.reduceNeg,Int.reduceLT,Int.reduceLE,Int.reduceEq,Nat.reduceEqDiff,Nat.reduceAdd,Nat.reduceLeDiff,reduceIte,reduceCtorEq,Nat.reduceBEq,i64,bV,iD,bD,c,ne_eq,not_true_eq_false]
 refine call_give [0] (by simp [killO,kill1,frzV.go,frzV,frzD]; rfl) ?_
 refine call_frame_new hnew [] rfl (by simp) (fun k o h=>by simp at h) rfl rfl rfl ?_
 rintro v s' ⟨rfl,rfl⟩ _
 have hroot:(freshM p t fuel).root=(numR p.re 0).1:=rfl
 have hfr:(freshM p t fuel).failed=[]∧(freshM p t fuel).frames=[]∧(freshM p t fuel).stk=[]:=⟨rfl,rfl,rfl⟩
 have hW:(freshM p t fuel).wf:=by
  refine⟨⟨fun b hb=>?_,fun b hb=>?_⟩,fun b hb=>?_⟩ <;> simp [freshM] at hb
 generalize freshM p t fuel=m0 at *
 have hrho:∀s:List VL.Obj,s.length=2→rhoN [] s [] m0.objs=[2,3,4,5,6,7,8]:=fun s hs=>by
  unfold rhoN
  simp [hs,Mm.objs]
  rfl
 rw[hrho _ rfl]
 simp only[List.take,List.drop,List.length_nil,List.map_nil,putObjs,mm_ren2,renV,List.getD_cons_zero,killO,kill1,List.getElem?_cons_zero,List.set_cons_zero,List.cons_append,List.nil_append]
 have hcc:∀fn a b,cellsV (.cl fn a b)=some [.cl fn a b]:=fun _ _ _=>rfl
 simp only[zX,Nat.reduceShiftRight,Nat.reduceMod,Nat.reduceLT,Nat.reduceMul,Nat.reduceSub,Int.reduceToNat,Int.reduceNeg,Int.reduceLT,Int.reduceLE,Int.reduceEq,Nat.reduceEqDiff,Nat.reduceAdd,Nat.reduceLeDiff,reduceIte,reduceCtorEq,Nat.reduceBEq,i64,bV,iD,bD]
 refine loop_rule (fun n e s=>∃i:Nat,n=9 - i∧i≤9∧e 1=.d (intsD t)∧e 2=i64 at_∧e 4=.rf 7 0 0 0∧e 8=.rf 8 0 0 0∧e 13=.rf 0 0 0 0∧e 14=.rf 9 0 0 0∧e 32=i64 i ∧
   s=m0.objs++[⟨0,false,10,[[i64 p.re.op,.d (.sl (p.re.set.map spanC)),.d (.sl (p.re.kids.map Re.cells)),i64 p.re.mn,i64 p.re.mx,i64 p.re.mode,i64 p.re.n,bV p.re.neg,i64 p.caps,bV p.runes]]⟩,⟨0,true,3,[[i64 0,i64 0,.fu []]]⟩,⟨0,true,18,[capC i]⟩])
  ⟨_,_,_,Cln.sel [2,3,4,5,6,7,8,0,1,9] [1,2,4,8,13,14,32] (by rfl),0,rfl,by omega,rfl,rfl,rfl,rfl,rfl,rfl,rfl,?_⟩ ?_
 ·obtain⟨f1,f2,f3⟩:=hfr
  unfold Mm.objs
  rw[f1,f2,f3]
  rfl
 rintro n e s ⟨i,rfl,hi,h1,h2,h4,h8,h13,h14,h32,rfl⟩
 rcases Nat.lt_or_ge i 9 with hlt | hge
 ·have hO10:=mm_ok' m0 10 (by omega)
  unfold Mm.objs
  have hi9:i=0∨i=1∨i=2∨i=3∨i=4∨i=5∨i=6∨i=7∨i=8:=by omega
  obtain⟨j,hj⟩:∃j,j=i:=⟨_,rfl⟩
  rcases hi9 with rfl | rfl | rfl | rfl | rfl | rfl | rfl | rfl | rfl
  all_goals
   simp only[capC,Nat.reduceMul,Nat.reduceSub,List.replicate_succ,List.replicate_zero,List.cons_append,List.nil_append]
   push_cast at h32
   simp only[zX,Nat.reduceShiftRight,Nat.reduceMod,Nat.reduceLT,Nat.reduceMul,Nat.reduceSub,Int.reduceToNat,Int.reduceNeg,Int.reduceLT,Int.reduceLE,Int.reduceEq,Nat.reduceEqDiff,Nat.reduceAdd,Nat.reduceLeDiff,reduceIte,reduceCtorEq,Nat.reduceBEq,i64,bV,iD,bD,h1,h2,h4,h8,h13,h14,h32,decide_true]
   refine⟨by decide,?_⟩
   refine⟨9 - (j + 1),_,_,by omega,Cln.refl,j + 1,rfl,by omega,?_,?_,?_,?_,?_,?_,?_,?_⟩ <;> (try simp only[zU,Nat.reduceBEq,Nat.reduceShiftRight,Nat.reduceMod,Nat.reduceEqDiff,reduceIte])
   ·exact h1
   ·exact h2
   ·exact h4
   ·exact h8
   ·exact h13
   ·exact h14
   ·subst hj; rfl
   ·subst hj; rfl
 ·have hie:i=9:=by omega
  subst hie
  have hplace:(⟨at_,some caps0,.mk 0 (some (numR p.re 0).1) 0 0 0 .nil⟩:MPl).v=.ag [i64 at_,.d (.el (List.replicate 18 (iD (-1)))),.d (.el [iD 0,m0.root.d,iD 0,iD 0,iD 0,.sc (.pointer none)])]:=by
   rw[hroot]
   unfold MPl.v MPl.cells
   simp only[Gl.d_mk,gl_nil]
   rfl
  cases hfm:firstM (fun m base p=>srchM k true m base p true) m0 ⟨at_,some caps0,.mk 0 (some (numR p.re 0).1) 0 0 0 .nil⟩ (-1) with
  | none=>rw[hfm] at hx; cases hx
  | some y =>
  obtain⟨m1,q,found⟩:=y
  rw[hfm] at hx
  simp only at hx
  have hst:=fun ext=>call_mm (mmfirst_ok (msearch_ok k) m0 hW _ _ hfm) rfl rfl rfl ext
  rw[hplace] at hst
  unfold Mm.objs at hst ⊢
  simp only[i64,bV,iD,bD,List.cons_append,List.nil_append,List.map_cons,List.map_nil,MPl.v,MPl.cells,rsM,List.replicate_succ,List.replicate_zero] at hst
  simp only[capC,Nat.reduceMul,Nat.reduceSub,List.replicate_succ,List.replicate_zero,List.cons_append,List.nil_append]
  push_cast at h32
  simp only[zX,Nat.reduceShiftRight,Nat.reduceMod,Nat.reduceLT,Nat.reduceMul,Nat.reduceSub,Int.reduceToNat,Int.reduceNeg,Int.reduceLT,Int.reduceLE,Int.reduceEq,Nat.reduceEqDiff,Nat.reduceAdd,Nat.reduceLeDiff,reduceIte,reduceCtorEq,Nat.reduceBEq,i64,bV,iD,bD,List.cons_append,List.nil_append,List.map_cons,List.map_nil,MPl.v,MPl.cells,rsM,h1,h2,h4,h8,h13,h14,h32,decide_false]
  refine call_give [9,10] (by simp [killO,kill1,frzV.go,frzV,frzD]; rfl) ?_
  refine callWp_mono (hst _) (fun v s' hv=>?_); obtain⟨rfl,rfl⟩:=hv
  clear hst hplace
  cases hsp:m1.spent with
  | true =>
   rw[if_pos hsp] at hx
   cases hx
   simp only[zX,Nat.reduceShiftRight,Nat.reduceMod,Nat.reduceLT,Nat.reduceMul,Nat.reduceSub,Int.reduceToNat,Int.reduceNeg,Int.reduceLT,Int.reduceLE,Int.reduceEq,Nat.reduceEqDiff,Nat.reduceAdd,Nat.reduceLeDiff,reduceIte,reduceCtorEq,Nat.reduceBEq,i64,bV,iD,bD,List.cons_append,List.nil_append,List.map_cons,List.map_nil,MPl.v,MPl.cells,rsM,h1,h2,h4,h8,h13,h14,h32,hsp]
   rfl
  | false =>
   rw[if_neg (by rw[hsp]; simp)] at hx
   cases found with
   | false =>
    rw[if_pos rfl] at hx
    cases hx
    simp only[zX,Nat.reduceShiftRight,Nat.reduceMod,Nat.reduceLT,Nat.reduceMul,Nat.reduceSub,Int.reduceToNat,Int.reduceNeg,Int.reduceLT,Int.reduceLE,Int.reduceEq,Nat.reduceEqDiff,Nat.reduceAdd,Nat.reduceLeDiff,reduceIte,reduceCtorEq,Nat.reduceBEq,i64,bV,iD,bD,List.cons_append,List.nil_append,List.map_cons,List.map_nil,MPl.v,MPl.cells,rsM,h1,h2,h4,h8,h13,h14,h32,hsp,Bool.not_false]
    refine draw_c mix [] [(1,[0],[]),(2,[0],[]),(3,[0],[]),(4,[0],[]),(5,[8],[8])] (by rfl) ?_
    simp only[zX,Nat.reduceShiftRight,Nat.reduceMod,Nat.reduceLT,Nat.reduceMul,Nat.reduceSub,Int.reduceToNat,Int.reduceNeg,Int.reduceLT,Int.reduceLE,Int.reduceEq,Nat.reduceEqDiff,Nat.reduceAdd,Nat.reduceLeDiff,reduceIte,reduceCtorEq,Nat.reduceBEq,i64,bV,iD,bD,List.cons_append,List.nil_append,List.map_cons,List.map_nil,MPl.v,MPl.cells,rsM,h1,h2,h4,h8,h13,h14,h32,hsp]
    rfl
   | true =>
    rw[if_neg (by simp)] at hx
    obtain⟨qat,qcaps,qtodo⟩:=q
    cases qcaps with
    | none=>cases hx
    | some cc =>
     simp only at hx
     split at hx
     ·cases hx
     rename_i hcc9
     cases hx
     have hclone:=cloneCaps_ok (cc.take p.caps.toNat) (by simp; omega)
     simp only[zX,Nat.reduceShiftRight,Nat.reduceMod,Nat.reduceLT,Nat.reduceMul,Nat.reduceSub,Int.reduceToNat,Int.reduceNeg,Int.reduceLT,Int.reduceLE,Int.reduceEq,Nat.reduceEqDiff,Nat.reduceAdd,Nat.reduceLeDiff,reduceIte,reduceCtorEq,Nat.reduceBEq,i64,bV,iD,bD,List.cons_append,List.nil_append,List.map_cons,List.map_nil,MPl.v,MPl.cells,rsM,h1,h2,h4,h8,h13,h14,h32,hsp,Bool.not_true]
     refine draw_c mix [] [(1,[11],[]),(2,[11],[]),(3,[11],[]),(4,[11],[]),(6,[7],[]),(7,[7],[]),(12,[0],[]),(13,[0],[]),(14,[0],[]),(15,[8],[8])] (by rfl) ?_
     simp only[zX,Nat.reduceShiftRight,Nat.reduceMod,Nat.reduceLT,Nat.reduceMul,Nat.reduceSub,Int.reduceToNat,Int.reduceNeg,Int.reduceLT,Int.reduceLE,Int.reduceEq,Nat.reduceEqDiff,Nat.reduceAdd,Nat.reduceLeDiff,reduceIte,reduceCtorEq,Nat.reduceBEq,i64,bV,iD,bD,List.cons_append,List.nil_append,List.map_cons,List.map_nil,MPl.v,MPl.cells,rsM,h1,h2,h4,h8,h13,h14,h32,hsp,capO9,cap9]
     refine⟨⟨⟨by omega,by omega⟩,pair_len cc (by omega)⟩,?_⟩
     rw[pair_chunk cc (by omega),Int.sub_zero]
     refine callC_pure hclone rfl rfl ?_
     simp only[zX,Nat.reduceShiftRight,Nat.reduceMod,Nat.reduceLT,Nat.reduceMul,Nat.reduceSub,Int.reduceToNat,Int.reduceNeg,Int.reduceLT,Int.reduceLE,Int.reduceEq,Nat.reduceEqDiff,Nat.reduceAdd,Nat.reduceLeDiff,reduceIte,reduceCtorEq,Nat.reduceBEq,i64,bV,iD,bD,List.cons_append,List.nil_append,List.map_cons,List.map_nil,MPl.v,MPl.cells,rsM,h1,h2,h4,h8,h13,h14,h32,hsp]
     rfl
end Go.Proofs.Ytpppfpaalcbggaa
