/- A part of the proof (MM7 MM8 MM9). -/
import Derived.Test.YtpppfpaalcbggaaML5
set_option linter.unusedSimpArgs false
set_option linter.unusedVariables false
set_option maxRecDepth 100000
set_option maxHeartbeats 80000000
namespace Go.Proofs.Ytpppfpaalcbggaa
open Go.VL
theorem counted_ok (re:Re) (n:Int):PureOK Try.prog 55 [.d (.el re.cells),i64 n] (i64 (countedR re n)):=by
 unfold countedR
 by_cases c:re.mx=-1
 ·rw[if_pos c]
  refine fn_ok Try.func55 rfl Try.ntmps55 Try.results55 rfl 0 19 (by simp) (by simp) ?_
  simp only[zX,Nat.reduceShiftRight,Nat.reduceMod,Nat.reduceLT,Nat.reduceMul,Nat.reduceSub,Int.reduceToNat,Int.reduceNeg,Int.reduceLT,Int.reduceLE,Int.reduceEq,Nat.reduceEqDiff,Nat.reduceAdd,Nat.reduceLeDiff,reduceIte,reduceCtorEq,Nat.reduceBEq,i64,Re.cells_eq re,iD,bD,c]
  all_goals first | exact⟨rfl,rfl⟩ | exact⟨rfl,trivial⟩ | rfl | trivial | (rw[reV_eq]; rfl)
 ·rw[if_neg c]
  refine fn_ok Try.func55 rfl Try.ntmps55 Try.results55 rfl 0 19 (by simp) (by simp) ?_
  simp only[zX,Nat.reduceShiftRight,Nat.reduceMod,Nat.reduceLT,Nat.reduceMul,Nat.reduceSub,Int.reduceToNat,Int.reduceNeg,Int.reduceLT,Int.reduceLE,Int.reduceEq,Nat.reduceEqDiff,Nat.reduceAdd,Nat.reduceLeDiff,reduceIte,reduceCtorEq,Nat.reduceBEq,i64,Re.cells_eq re,iD,bD,c]
  all_goals first | exact⟨rfl,rfl⟩ | exact⟨rfl,trivial⟩ | rfl | trivial | (rw[reV_eq]; rfl)
theorem Nd.d_eq (nd:Nd):nd.d=.el [.el nd.re.cells,.sc (.int .i64 nd.id),.sl (nd.kids.map fun k=>[k.d]),.sc (.bool nd.loop)]:=by
 have:∀l:List Nd,Nd.ds l=l.map fun k=>[k.d]:=fun l=>by
  induction l with
  | nil=>simp [Nd.ds]
  | cons k l ih=>simp [Nd.ds,ih]
 cases nd
 simp [Nd.d,this,Nd.re,Nd.id,Nd.kids,Nd.loop]
theorem Gl.d_mk (kind:Int) (nd:Nd) (n at_ env:Int) (nx:Gl):(Gl.mk kind (some nd) n at_ env nx).d=.el [.sc (.int .i64 kind),nd.d,.sc (.int .i64 n),.sc (.int .i64 at_),.sc (.int .i64 env),nx.d]:=by
 rw[Gl.d,ndO]
theorem w16 {n:Int} (h:fit16 n=true):IntKind.i16.wrap n=n:=by
 unfold fit16 at h
 exact IntWalk.i16_in n (by have:=of_decide_eq_true h; omega)
theorem w32 {n:Int} (h:fit32 n=true):IntKind.i32.wrap n=n:=by
 unfold fit32 at h
 exact IntWalk.i32_in n (by have:=of_decide_eq_true h; omega)
theorem describe_inv {m:Mm} {p:MPl} {b:Beg} (h:m.describe p=some b):m.depends=false∧∃kind nd n at_ env nx,p.todo=.mk kind (some nd) n at_ env nx ∧
  fit16 nd.id=true∧fit16 kind=true∧fit16 (if kind=1 then countedR nd.re n else 0)=true∧fit32 p.at_=true∧fit32 m.stop=true∧fit32 env=true∧b=⟨nd.id,kind,if kind=1 then countedR nd.re n else 0,p.at_,m.stop,env,0⟩:=by
 unfold Mm.describe at h
 cases hd:m.depends with
 | true=>rw[hd,if_pos rfl] at h; cases h
 | false =>
  rw[hd,if_neg (by simp)] at h
  cases ht:p.todo with
  | nil=>rw[ht] at h; cases h
  | mk kind node n at_ env nx =>
   cases node with
   | none=>rw[ht] at h; cases h
   | some nd =>
    rw[ht] at h
    simp only at h
    by_cases hf:(fit16 nd.id&&fit16 kind&&fit16 (if kind=1 then countedR nd.re n else 0)&&fit32 p.at_&&fit32 m.stop&&fit32 env)=true
    ·rw[if_pos hf] at h
     simp only[Bool.and_eq_true] at hf
     obtain⟨⟨⟨⟨⟨q1,q2⟩,q3⟩,q4⟩,q5⟩,q6⟩:=hf
     exact⟨rfl,kind,nd,n,at_,env,nx,rfl,q1,q2,q3,q4,q5,q6,(Option.some.inj h).symm⟩
    ·rw[if_neg hf] at h; cases h
theorem wf16 {n:Int} (h:fit16 n=true):(Lit.int .i16 n).wf=true:=by
 have e1:IntKind.i16.min=-32768:=by rfl
 have e2:IntKind.i16.max=32767:=by rfl
 unfold fit16 at h
 have:=of_decide_eq_true h
 simp only[Lit.wf,e1,e2,Bool.and_eq_true,decide_eq_true_eq]
 omega
theorem wf32 {n:Int} (h:fit32 n=true):(Lit.int .i32 n).wf=true:=by
 have e1:IntKind.i32.min=-2147483648:=by rfl
 have e2:IntKind.i32.max=2147483647:=by rfl
 unfold fit32 at h
 have:=of_decide_eq_true h
 simp only[Lit.wf,e1,e2,Bool.and_eq_true,decide_eq_true_eq]
 omega
theorem wf64 {n:Int} (h:I64 n):(Lit.int .i64 n).wf=true:=by
 unfold I64 at h
 simp only[Lit.wf,Bool.and_eq_true,decide_eq_true_eq]
 exact h
theorem describe_fit {m:Mm} {p:MPl} {b:Beg} (h:m.describe p=some b):b.fit=true:=by
 obtain⟨_,kind,nd,n,at_,env,nx,_,q1,q2,q3,q4,q5,q6,rfl⟩:=describe_inv h
 simp only[Beg.fit,wfI,wf16 q1,wf16 q2,wf16 q3,wf32 q4,wf32 q5,wf32 q6,Bool.and_self,Bool.true_and]
 decide
theorem describe_ok (m:Mm) (p:MPl) (b:Beg) (hx:m.describe p=some b):callWp Try.prog 54 [p.v,.rf 1 0 0 0,.rf 2 0 0 0] m.objs fun v s=>v=b.v∧s=m.objs:=by
 obtain⟨hd,kind,nd,n,at_,env,nx,ht,q1,q2,q3,q4,q5,q6,rfl⟩:=describe_inv hx
 have w1:=w16 q1
 have w2:=w16 q2
 have w3:=w16 q3
 have w4:=w32 q4
 have w5:=w32 q5
 have w6:=w32 q6
 have hmok:=mm_ok m
 unfold Mm.objs at hmok ⊢
 unfold MPl.v MPl.cells
 rw[ht,Gl.d_mk,Nd.d_eq]
 by_cases c:kind=1
 ·rw[if_pos c] at w3 ⊢
  subst c
  refine fn_ok Try.func54 rfl Try.ntmps54 Try.results54 rfl 7 511 (by exact Nat.le_refl _) (by simp) ?_
  simp only[zX,Nat.reduceShiftRight,Nat.reduceMod,Nat.reduceLT,Nat.reduceMul,Nat.reduceSub,Int.reduceToNat,Int.reduceNeg,Int.reduceLT,Int.reduceLE,Int.reduceEq,Nat.reduceEqDiff,Nat.reduceAdd,Nat.reduceLeDiff,reduceIte,reduceCtorEq,Nat.reduceBEq,i64,bV,iD,bD,List.cons_append,List.nil_append,List.map_cons,List.map_nil,MPl.v,MPl.cells,rsM]
  refine draw_first Cln0.reserve ?_
  refine draw_c mix [] [(27,[9],[9]),(28,[9],[9])] (by rfl) ?_
  simp only[zX,Nat.reduceShiftRight,Nat.reduceMod,Nat.reduceLT,Nat.reduceMul,Nat.reduceSub,Int.reduceToNat,Int.reduceNeg,Int.reduceLT,Int.reduceLE,Int.reduceEq,Nat.reduceEqDiff,Nat.reduceAdd,Nat.reduceLeDiff,reduceIte,reduceCtorEq,Nat.reduceBEq,i64,bV,iD,bD,List.cons_append,List.nil_append,List.map_cons,List.map_nil,MPl.v,MPl.cells,rsM,hole,hd,w1,w2,w4,w5,w6]
  refine draw_c mix [] [(13,[9],[]),(14,[9],[9])] (by rfl) ?_
  simp only[zX,Nat.reduceShiftRight,Nat.reduceMod,Nat.reduceLT,Nat.reduceMul,Nat.reduceSub,Int.reduceToNat,Int.reduceNeg,Int.reduceLT,Int.reduceLE,Int.reduceEq,Nat.reduceEqDiff,Nat.reduceAdd,Nat.reduceLeDiff,reduceIte,reduceCtorEq,Nat.reduceBEq,i64,bV,iD,bD,List.cons_append,List.nil_append,List.map_cons,List.map_nil,MPl.v,MPl.cells,rsM,hd,w1,w2,w4,w5,w6]
  refine callC_pure (counted_ok nd.re n) rfl rfl ?_
  simp only[zX,Nat.reduceShiftRight,Nat.reduceMod,Nat.reduceLT,Nat.reduceMul,Nat.reduceSub,Int.reduceToNat,Int.reduceNeg,Int.reduceLT,Int.reduceLE,Int.reduceEq,Nat.reduceEqDiff,Nat.reduceAdd,Nat.reduceLeDiff,reduceIte,reduceCtorEq,Nat.reduceBEq,i64,bV,iD,bD,List.cons_append,List.nil_append,List.map_cons,List.map_nil,MPl.v,MPl.cells,rsM,hd,w1,w2,w3,w4,w5,w6]
  simp only[List.all_cons,List.all_nil,Bool.and_true,objOk,failE,frmE,rows_refs,stM_refs,Bool.and_self,true_and]
  rfl
 ·rw[if_neg c] at w3 ⊢
  have c':¬(kind=1):=c
  refine fn_ok Try.func54 rfl Try.ntmps54 Try.results54 rfl 7 511 (by exact Nat.le_refl _) (by simp) ?_
  simp only[zX,Nat.reduceShiftRight,Nat.reduceMod,Nat.reduceLT,Nat.reduceMul,Nat.reduceSub,Int.reduceToNat,Int.reduceNeg,Int.reduceLT,Int.reduceLE,Int.reduceEq,Nat.reduceEqDiff,Nat.reduceAdd,Nat.reduceLeDiff,reduceIte,reduceCtorEq,Nat.reduceBEq,i64,bV,iD,bD,List.cons_append,List.nil_append,List.map_cons,List.map_nil,MPl.v,MPl.cells,rsM]
  refine draw_first Cln0.reserve ?_
  refine draw_c mix [] [(27,[9],[9]),(28,[9],[9])] (by rfl) ?_
  simp only[zX,Nat.reduceShiftRight,Nat.reduceMod,Nat.reduceLT,Nat.reduceMul,Nat.reduceSub,Int.reduceToNat,Int.reduceNeg,Int.reduceLT,Int.reduceLE,Int.reduceEq,Nat.reduceEqDiff,Nat.reduceAdd,Nat.reduceLeDiff,reduceIte,reduceCtorEq,Nat.reduceBEq,i64,bV,iD,bD,List.cons_append,List.nil_append,List.map_cons,List.map_nil,MPl.v,MPl.cells,rsM,hole,hd,w1,w2,w4,w5,w6,c']
  simp only[List.all_cons,List.all_nil,Bool.and_true,objOk,failE,frmE,rows_refs,stM_refs,Bool.and_self,true_and]
  rfl
theorem vV_unit:vV (.agg #[])=.ag []:=rfl
theorem mm_all (m:Mm):(((failE m.failed).all fun e=>e.all (refsV 7))&&(((frmE m.frames).all fun e=>e.all (refsV 7))&&(m.stk.map stM).all fun e=>e.all (refsV 7)))=true:=by
 simp only[failE,frmE,rows_refs,stM_refs,Bool.and_self]
theorem inside_ok (m m':Mm) (f:Frm) (n:Int) (hf:f.fit=true) (hx:m.inside f=some (m',n)) (hK:∀p∈m.frames,p.1.fit=true):callWp Try.prog 103 [.rf 0 0 0 0,f.v] m.objs fun v s=>v=i64 n∧s=m'.objs:=by
 have hrows:∀p∈m.frames.map (fun p=>(p.1.val,(Value.int .i64 p.2))),KeyOk Try.prog 165 p.1∧ValOk p.2:=fun p hp=>by
  obtain⟨x,hx,rfl⟩:=List.mem_map.1 hp
  exact⟨ok_frm (hK x hx),.inr rfl⟩
 have hkv:∀x y z w,kVal (.ag [.d (.sc (.int .i64 x)),.d (.sc (.int .i64 y)),.d (.sc (.int .i64 z)),.d (.sc (.int .i64 w))])=some (Frm.val ⟨x,y,z,w⟩):=fun _ _ _ _=>rfl
 have hall:=mm_all m
 unfold Mm.inside at hx
 cases hfi:m.frames.find? (fun p=>decide (p.1=f)) with
 | some x =>
  rw[hfi] at hx
  simp only at hx
  split at hx
  case isFalse=>cases hx
  rename_i ha
  cases hx
  have hfk:=frm_find_some hfi ha
  obtain⟨f1,f2,f3,f4⟩:=f
  unfold Mm.objs Frm.v
  refine fn_ok Try.func103 rfl Try.ntmps103 Try.results103 rfl 7 123 (by exact Nat.le_refl _) (by simp) ?_
  simp only[zX,Nat.reduceShiftRight,Nat.reduceMod,Nat.reduceLT,Nat.reduceMul,Nat.reduceSub,Int.reduceToNat,Int.reduceNeg,Int.reduceLT,Int.reduceLE,Int.reduceEq,Nat.reduceEqDiff,Nat.reduceAdd,Nat.reduceLeDiff,reduceIte,reduceCtorEq,Nat.reduceBEq,i64,bV,iD,bD,List.cons_append,List.nil_append,List.map_cons,List.map_nil,MPl.v,MPl.cells,rsM,Frm.vals,kI]
  refine draw_c mix [] [] (by rfl) ?_
  simp only[zX,Nat.reduceShiftRight,Nat.reduceMod,Nat.reduceLT,Nat.reduceMul,Nat.reduceSub,Int.reduceToNat,Int.reduceNeg,Int.reduceLT,Int.reduceLE,Int.reduceEq,Nat.reduceEqDiff,Nat.reduceAdd,Nat.reduceLeDiff,reduceIte,reduceCtorEq,Nat.reduceBEq,i64,bV,iD,bD,List.cons_append,List.nil_append,List.map_cons,List.map_nil,MPl.v,MPl.cells,rsM,lookKWp,und_frm,hkv]
  refine⟨⟨law_frm,ok_frm hf⟩,m.frames.map (fun p=>(p.1.val,.int .i64 p.2)),some (.int .i64 x.2),.int .i64 0,rfl,hrows,hfk,⟨zero_int,.inr rfl⟩,?_⟩
  simp only[zX,Nat.reduceShiftRight,Nat.reduceMod,Nat.reduceLT,Nat.reduceMul,Nat.reduceSub,Int.reduceToNat,Int.reduceNeg,Int.reduceLT,Int.reduceLE,Int.reduceEq,Nat.reduceEqDiff,Nat.reduceAdd,Nat.reduceLeDiff,reduceIte,reduceCtorEq,Nat.reduceBEq,i64,bV,iD,bD,List.cons_append,List.nil_append,List.map_cons,List.map_nil,MPl.v,MPl.cells,rsM,vV,Option.getD_some,Option.isSome_some,Bool.not_true]
  exact hall
 | none =>
  rw[hfi] at hx
  simp only at hx
  split at hx
  ·cases hx
  rename_i hlen
  cases hx
  have hfk:=frm_find_none hfi
  have hl:(frmE m.frames).length=m.frames.length:=by simp [frmE,rowsK]
  have w1:IntKind.i64.wrap ((m.frames.length:Int) + 1)=(m.frames.length:Int) + 1:=w64 _ (by omega)
  have hall2:=mm_all { m with frames:=m.frames++[(f,(m.frames.length:Int) + 1)] }
  have hsn:=frmE_snoc m.frames f ((m.frames.length:Int) + 1)
  obtain⟨f1,f2,f3,f4⟩:=f
  unfold Mm.objs Frm.v
  refine fn_ok Try.func103 rfl Try.ntmps103 Try.results103 rfl 7 123 (by exact Nat.le_refl _) (by simp) ?_
  simp only[zX,Nat.reduceShiftRight,Nat.reduceMod,Nat.reduceLT,Nat.reduceMul,Nat.reduceSub,Int.reduceToNat,Int.reduceNeg,Int.reduceLT,Int.reduceLE,Int.reduceEq,Nat.reduceEqDiff,Nat.reduceAdd,Nat.reduceLeDiff,reduceIte,reduceCtorEq,Nat.reduceBEq,i64,bV,iD,bD,List.cons_append,List.nil_append,List.map_cons,List.map_nil,MPl.v,MPl.cells,rsM,Frm.vals,kI]
  refine draw_c mix [] [] (by rfl) ?_
  simp only[zX,Nat.reduceShiftRight,Nat.reduceMod,Nat.reduceLT,Nat.reduceMul,Nat.reduceSub,Int.reduceToNat,Int.reduceNeg,Int.reduceLT,Int.reduceLE,Int.reduceEq,Nat.reduceEqDiff,Nat.reduceAdd,Nat.reduceLeDiff,reduceIte,reduceCtorEq,Nat.reduceBEq,i64,bV,iD,bD,List.cons_append,List.nil_append,List.map_cons,List.map_nil,MPl.v,MPl.cells,rsM,lookKWp,und_frm,hkv]
  refine⟨⟨law_frm,ok_frm hf⟩,m.frames.map (fun p=>(p.1.val,.int .i64 p.2)),none,.int .i64 0,rfl,hrows,hfk,⟨zero_int,.inr rfl⟩,?_⟩
  simp only[zX,Nat.reduceShiftRight,Nat.reduceMod,Nat.reduceLT,Nat.reduceMul,Nat.reduceSub,Int.reduceToNat,Int.reduceNeg,Int.reduceLT,Int.reduceLE,Int.reduceEq,Nat.reduceEqDiff,Nat.reduceAdd,Nat.reduceLeDiff,reduceIte,reduceCtorEq,Nat.reduceBEq,i64,bV,iD,bD,List.cons_append,List.nil_append,List.map_cons,List.map_nil,MPl.v,MPl.cells,rsM,vV,Option.getD_none,Option.isSome_none,Bool.not_false,hl,w1]
  refine draw_c mix [6] [] (by rfl) ?_
  simp only[zX,Nat.reduceShiftRight,Nat.reduceMod,Nat.reduceLT,Nat.reduceMul,Nat.reduceSub,Int.reduceToNat,Int.reduceNeg,Int.reduceLT,Int.reduceLE,Int.reduceEq,Nat.reduceEqDiff,Nat.reduceAdd,Nat.reduceLeDiff,reduceIte,reduceCtorEq,Nat.reduceBEq,i64,bV,iD,bD,List.cons_append,List.nil_append,List.map_cons,List.map_nil,MPl.v,MPl.cells,rsM,updWp,updFWp,updKWp,mt_frm,mft_frm,und_frm,hkv,xVal,hl,w1]
  refine⟨⟨law_frm,ok_frm hf⟩,m.frames.map (fun p=>(p.1.val,.int .i64 p.2)),none,⟨rfl,fun p hp=>(hrows p hp).1,hfk⟩,?_⟩
  simp only[zX,Nat.reduceShiftRight,Nat.reduceMod,Nat.reduceLT,Nat.reduceMul,Nat.reduceSub,Int.reduceToNat,Int.reduceNeg,Int.reduceLT,Int.reduceLE,Int.reduceEq,Nat.reduceEqDiff,Nat.reduceAdd,Nat.reduceLeDiff,reduceIte,reduceCtorEq,Nat.reduceBEq,i64,bV,iD,bD,List.cons_append,List.nil_append,List.map_cons,List.map_nil,MPl.v,MPl.cells,rsM,hsn]
  exact hall2
theorem enter_ok (m m':Mm) (p:MPl) (ok:Bool) (hx:m.enter p=some (m',ok)) (h0:0≤m.steps) (h1:m.steps≤10000000000000) (h2:m.top≤m.stk.length) (h3:m.top≤1200000000000) (hK:∀b∈m.failed,b.fit=true) :
  callWp Try.prog 87 [.rf 0 0 0 0,p.v] m.objs fun v s=>v=bV ok∧s=m'.objs:=by
 unfold Mm.enter at hx
 cases hd:m.describe p with
 | none=>rw[hd] at hx; cases hx
 | some b =>
 rw[hd] at hx
 simp only at hx
 have hb:=describe_fit hd
 have hst:=fun ext K hk=>callF_mm (K:=K) (describe_ok m p b hd) rfl rfl rfl ext hk
 have hrows:∀p∈m.failed.map (fun b=>(b.val,(Value.agg #[]))),KeyOk Try.prog 114 p.1∧ValOk p.2:=fun p hp=>by
  obtain⟨x,hx,rfl⟩:=List.mem_map.1 hp
  exact⟨ok_beg (hK x hx),.inl rfl⟩
 have hkv:∀a1 a2 a3 a4 a5 a6 a7,kVal (.ag [.d (.sc (.int .i16 a1)),.d (.sc (.int .i16 a2)),.d (.sc (.int .i16 a3)),.d (.sc (.int .i32 a4)),.d (.sc (.int .i32 a5)),.d (.sc (.int .i32 a6)),.d (.sc (.int .i32 a7))])=some (Beg.val ⟨a1,a2,a3,a4,a5,a6,a7⟩):=fun _ _ _ _ _ _ _=>rfl
 have hfk:=fail_find m.failed b
 have hall:=mm_all m
 unfold Mm.objs at hst
 unfold Mm.objs
 simp only[i64,bV,iD,bD,List.cons_append,List.nil_append,List.map_cons,List.map_nil,MPl.v,MPl.cells,rsM] at hst
 by_cases hm:b∈m.failed
 ·rw[if_pos hm] at hx hfk
  cases hx
  clear hm
  obtain⟨b1,b2,b3,b4,b5,b6,b7⟩:=b
  refine fn_ok Try.func87 rfl Try.ntmps87 Try.results87 rfl 7 187 (by exact Nat.le_refl _) (by simp) ?_
  simp only[zX,Nat.reduceShiftRight,Nat.reduceMod,Nat.reduceLT,Nat.reduceMul,Nat.reduceSub,Int.reduceToNat,Int.reduceNeg,Int.reduceLT,Int.reduceLE,Int.reduceEq,Nat.reduceEqDiff,Nat.reduceAdd,Nat.reduceLeDiff,reduceIte,reduceCtorEq,Nat.reduceBEq,i64,bV,iD,bD,List.cons_append,List.nil_append,List.map_cons,List.map_nil,MPl.v,MPl.cells,rsM]
  refine draw_first Cln0.reserve ?_
  refine draw_c mix [] [(1,[0],[]),(2,[0],[]),(3,[0],[]),(5,[0,1,2,3,4,5,6],[0,1,2,3,4,5,6]),(6,[8],[8]),(7,[8],[8])] (by rfl) ?_
  simp only[zX,Nat.reduceShiftRight,Nat.reduceMod,Nat.reduceLT,Nat.reduceMul,Nat.reduceSub,Int.reduceToNat,Int.reduceNeg,Int.reduceLT,Int.reduceLE,Int.reduceEq,Nat.reduceEqDiff,Nat.reduceAdd,Nat.reduceLeDiff,reduceIte,reduceCtorEq,Nat.reduceBEq,i64,bV,iD,bD,List.cons_append,List.nil_append,List.map_cons,List.map_nil,MPl.v,MPl.cells,rsM,hole]
  refine hst _ _ ?_
  simp only[zX,Nat.reduceShiftRight,Nat.reduceMod,Nat.reduceLT,Nat.reduceMul,Nat.reduceSub,Int.reduceToNat,Int.reduceNeg,Int.reduceLT,Int.reduceLE,Int.reduceEq,Nat.reduceEqDiff,Nat.reduceAdd,Nat.reduceLeDiff,reduceIte,reduceCtorEq,Nat.reduceBEq,i64,bV,iD,bD,List.cons_append,List.nil_append,List.map_cons,List.map_nil,MPl.v,MPl.cells,rsM,hole,Beg.v,Beg.cs,Beg.vals,kI]
  refine draw_first Cln0.reserve ?_
  refine draw_c mix [] [(9,[9],[9]),(10,[9],[9])] (by rfl) ?_
  simp only[zX,Nat.reduceShiftRight,Nat.reduceMod,Nat.reduceLT,Nat.reduceMul,Nat.reduceSub,Int.reduceToNat,Int.reduceNeg,Int.reduceLT,Int.reduceLE,Int.reduceEq,Nat.reduceEqDiff,Nat.reduceAdd,Nat.reduceLeDiff,reduceIte,reduceCtorEq,Nat.reduceBEq,i64,bV,iD,bD,List.cons_append,List.nil_append,List.map_cons,List.map_nil,MPl.v,MPl.cells,rsM,hole,lookKWp,und_fail,hkv]
  refine⟨⟨law_beg,ok_beg hb⟩,m.failed.map (fun b=>(b.val,.agg #[])),some (.agg #[]),.agg #[],rfl,hrows,hfk,⟨zero_unit,.inl rfl⟩,?_⟩
  simp only[zX,Nat.reduceShiftRight,Nat.reduceMod,Nat.reduceLT,Nat.reduceMul,Nat.reduceSub,Int.reduceToNat,Int.reduceNeg,Int.reduceLT,Int.reduceLE,Int.reduceEq,Nat.reduceEqDiff,Nat.reduceAdd,Nat.reduceLeDiff,reduceIte,reduceCtorEq,Nat.reduceBEq,i64,bV,iD,bD,List.cons_append,List.nil_append,List.map_cons,List.map_nil,MPl.v,MPl.cells,rsM,vV_unit,Option.getD_some,Option.isSome_some]
  exact hall
 ·rw[if_neg hm] at hx hfk
  clear hm
  have hneed:∀K:Prop,K→K:=fun _ h=>h
  by_cases hfu:m.fuel≤m.steps
  ·rw[if_pos hfu] at hx
   cases hx
   obtain⟨b1,b2,b3,b4,b5,b6,b7⟩:=b
   refine fn_ok Try.func87 rfl Try.ntmps87 Try.results87 rfl 7 187 (by exact Nat.le_refl _) (by simp) ?_
   simp only[zX,Nat.reduceShiftRight,Nat.reduceMod,Nat.reduceLT,Nat.reduceMul,Nat.reduceSub,Int.reduceToNat,Int.reduceNeg,Int.reduceLT,Int.reduceLE,Int.reduceEq,Nat.reduceEqDiff,Nat.reduceAdd,Nat.reduceLeDiff,reduceIte,reduceCtorEq,Nat.reduceBEq,i64,bV,iD,bD,List.cons_append,List.nil_append,List.map_cons,List.map_nil,MPl.v,MPl.cells,rsM]
   refine draw_first Cln0.reserve ?_
   refine draw_c mix [] [(1,[0],[]),(2,[0],[]),(3,[0],[]),(5,[0,1,2,3,4,5,6],[0,1,2,3,4,5,6]),(6,[8],[8]),(7,[8],[8])] (by rfl) ?_
   simp only[zX,Nat.reduceShiftRight,Nat.reduceMod,Nat.reduceLT,Nat.reduceMul,Nat.reduceSub,Int.reduceToNat,Int.reduceNeg,Int.reduceLT,Int.reduceLE,Int.reduceEq,Nat.reduceEqDiff,Nat.reduceAdd,Nat.reduceLeDiff,reduceIte,reduceCtorEq,Nat.reduceBEq,i64,bV,iD,bD,List.cons_append,List.nil_append,List.map_cons,List.map_nil,MPl.v,MPl.cells,rsM,hole]
   refine hst _ _ ?_
   simp only[zX,Nat.reduceShiftRight,Nat.reduceMod,Nat.reduceLT,Nat.reduceMul,Nat.reduceSub,Int.reduceToNat,Int.reduceNeg,Int.reduceLT,Int.reduceLE,Int.reduceEq,Nat.reduceEqDiff,Nat.reduceAdd,Nat.reduceLeDiff,reduceIte,reduceCtorEq,Nat.reduceBEq,i64,bV,iD,bD,List.cons_append,List.nil_append,List.map_cons,List.map_nil,MPl.v,MPl.cells,rsM,hole,Beg.v,Beg.cs,Beg.vals,kI]
   refine draw_first Cln0.reserve ?_
   refine draw_c mix [] [(9,[9],[9]),(10,[9],[9])] (by rfl) ?_
   simp only[zX,Nat.reduceShiftRight,Nat.reduceMod,Nat.reduceLT,Nat.reduceMul,Nat.reduceSub,Int.reduceToNat,Int.reduceNeg,Int.reduceLT,Int.reduceLE,Int.reduceEq,Nat.reduceEqDiff,Nat.reduceAdd,Nat.reduceLeDiff,reduceIte,reduceCtorEq,Nat.reduceBEq,i64,bV,iD,bD,List.cons_append,List.nil_append,List.map_cons,List.map_nil,MPl.v,MPl.cells,rsM,hole,lookKWp,und_fail,hkv]
   refine⟨⟨law_beg,ok_beg hb⟩,m.failed.map (fun b=>(b.val,.agg #[])),none,.agg #[],rfl,hrows,hfk,⟨zero_unit,.inl rfl⟩,?_⟩
   simp only[zX,Nat.reduceShiftRight,Nat.reduceMod,Nat.reduceLT,Nat.reduceMul,Nat.reduceSub,Int.reduceToNat,Int.reduceNeg,Int.reduceLT,Int.reduceLE,Int.reduceEq,Nat.reduceEqDiff,Nat.reduceAdd,Nat.reduceLeDiff,reduceIte,reduceCtorEq,Nat.reduceBEq,i64,bV,iD,bD,List.cons_append,List.nil_append,List.map_cons,List.map_nil,MPl.v,MPl.cells,rsM,vV_unit,Option.getD_none,Option.isSome_none]
   refine draw_c mix [] [] (by rfl) ?_
   simp only[zX,Nat.reduceShiftRight,Nat.reduceMod,Nat.reduceLT,Nat.reduceMul,Nat.reduceSub,Int.reduceToNat,Int.reduceNeg,Int.reduceLT,Int.reduceLE,Int.reduceEq,Nat.reduceEqDiff,Nat.reduceAdd,Nat.reduceLeDiff,reduceIte,reduceCtorEq,Nat.reduceBEq,i64,bV,iD,bD,List.cons_append,List.nil_append,List.map_cons,List.map_nil,MPl.v,MPl.cells,rsM,ge_iff_le,hfu]
   exact hall
  ·rw[if_neg hfu] at hx
   cases hx
   have w1:IntKind.i64.wrap (m.steps + 1)=m.steps + 1:=w64 _ (by omega)
   have hall2:=mm_all ({ m with steps:=m.steps + 1 }.push (.note b))
   obtain⟨b1,b2,b3,b4,b5,b6,b7⟩:=b
   have e:List.take m.top (m.stk.map stM)++[[V.d (D.sc (.int .i64 0)),V.d (D.sc (.pointer none)),V.d (D.sc (.pointer none)),V.d (D.sc (.int .i16 b1)),V.d (D.sc (.int .i16 b2)),V.d (D.sc (.int .i16 b3)),V.d (D.sc (.int .i32 b4)),V.d (D.sc (.int .i32 b5)),V.d (D.sc (.int .i32 b6)),V.d (D.sc (.int .i32 b7)),V.d (D.sc (.bool true))]]=(Mm.push { m with steps:=m.steps + 1 } (.note ⟨b1,b2,b3,b4,b5,b6,b7⟩)).stk.map stM:=by
    simp only[Mm.push,List.map_append,List.map_take]; rfl
   refine fn_ok Try.func87 rfl Try.ntmps87 Try.results87 rfl 7 187 (by exact Nat.le_refl _) (by simp) ?_
   simp only[zX,Nat.reduceShiftRight,Nat.reduceMod,Nat.reduceLT,Nat.reduceMul,Nat.reduceSub,Int.reduceToNat,Int.reduceNeg,Int.reduceLT,Int.reduceLE,Int.reduceEq,Nat.reduceEqDiff,Nat.reduceAdd,Nat.reduceLeDiff,reduceIte,reduceCtorEq,Nat.reduceBEq,i64,bV,iD,bD,List.cons_append,List.nil_append,List.map_cons,List.map_nil,MPl.v,MPl.cells,rsM]
   refine draw_first Cln0.reserve ?_
   refine draw_c mix [] [(1,[0],[]),(2,[0],[]),(3,[0],[]),(5,[0,1,2,3,4,5,6],[0,1,2,3,4,5,6]),(6,[8],[8]),(7,[8],[8])] (by rfl) ?_
   simp only[zX,Nat.reduceShiftRight,Nat.reduceMod,Nat.reduceLT,Nat.reduceMul,Nat.reduceSub,Int.reduceToNat,Int.reduceNeg,Int.reduceLT,Int.reduceLE,Int.reduceEq,Nat.reduceEqDiff,Nat.reduceAdd,Nat.reduceLeDiff,reduceIte,reduceCtorEq,Nat.reduceBEq,i64,bV,iD,bD,List.cons_append,List.nil_append,List.map_cons,List.map_nil,MPl.v,MPl.cells,rsM,hole]
   refine hst _ _ ?_
   simp only[zX,Nat.reduceShiftRight,Nat.reduceMod,Nat.reduceLT,Nat.reduceMul,Nat.reduceSub,Int.reduceToNat,Int.reduceNeg,Int.reduceLT,Int.reduceLE,Int.reduceEq,Nat.reduceEqDiff,Nat.reduceAdd,Nat.reduceLeDiff,reduceIte,reduceCtorEq,Nat.reduceBEq,i64,bV,iD,bD,List.cons_append,List.nil_append,List.map_cons,List.map_nil,MPl.v,MPl.cells,rsM,hole,Beg.v,Beg.cs,Beg.vals,kI]
   refine draw_first Cln0.reserve ?_
   refine draw_c mix [] [(9,[9],[9]),(10,[9],[9])] (by rfl) ?_
   simp only[zX,Nat.reduceShiftRight,Nat.reduceMod,Nat.reduceLT,Nat.reduceMul,Nat.reduceSub,Int.reduceToNat,Int.reduceNeg,Int.reduceLT,Int.reduceLE,Int.reduceEq,Nat.reduceEqDiff,Nat.reduceAdd,Nat.reduceLeDiff,reduceIte,reduceCtorEq,Nat.reduceBEq,i64,bV,iD,bD,List.cons_append,List.nil_append,List.map_cons,List.map_nil,MPl.v,MPl.cells,rsM,hole,lookKWp,und_fail,hkv]
   refine⟨⟨law_beg,ok_beg hb⟩,m.failed.map (fun b=>(b.val,.agg #[])),none,.agg #[],rfl,hrows,hfk,⟨zero_unit,.inl rfl⟩,?_⟩
   simp only[zX,Nat.reduceShiftRight,Nat.reduceMod,Nat.reduceLT,Nat.reduceMul,Nat.reduceSub,Int.reduceToNat,Int.reduceNeg,Int.reduceLT,Int.reduceLE,Int.reduceEq,Nat.reduceEqDiff,Nat.reduceAdd,Nat.reduceLeDiff,reduceIte,reduceCtorEq,Nat.reduceBEq,i64,bV,iD,bD,List.cons_append,List.nil_append,List.map_cons,List.map_nil,MPl.v,MPl.cells,rsM,vV_unit,Option.getD_none,Option.isSome_none]
   refine draw_c mix [] [] (by rfl) ?_
   simp only[zX,Nat.reduceShiftRight,Nat.reduceMod,Nat.reduceLT,Nat.reduceMul,Nat.reduceSub,Int.reduceToNat,Int.reduceNeg,Int.reduceLT,Int.reduceLE,Int.reduceEq,Nat.reduceEqDiff,Nat.reduceAdd,Nat.reduceLeDiff,reduceIte,reduceCtorEq,Nat.reduceBEq,i64,bV,iD,bD,List.cons_append,List.nil_append,List.map_cons,List.map_nil,MPl.v,MPl.cells,rsM,ge_iff_le,hfu,w1]
   refine draw_c mix [] [(2,[0],[]),(3,[0],[]),(4,[0],[]),(8,[6],[6]),(9,[0],[]),(10,[0],[]),(11,[0],[0])] (by rfl) ?_
   simp only[zX,Nat.reduceShiftRight,Nat.reduceMod,Nat.reduceLT,Nat.reduceMul,Nat.reduceSub,Int.reduceToNat,Int.reduceNeg,Int.reduceLT,Int.reduceLE,Int.reduceEq,Nat.reduceEqDiff,Nat.reduceAdd,Nat.reduceLeDiff,reduceIte,reduceCtorEq,Nat.reduceBEq,i64,bV,iD,bD,List.cons_append,List.nil_append,List.map_cons,List.map_nil,MPl.v,MPl.cells,rsM,w1]
   refine⟨rfl,by simp,⟨by omega,by omega⟩,?_⟩
   rw[e]
   exact⟨hall2,rfl⟩
theorem mmset_ok (m:Mm) (re:Re) (p:MPl) (hset:re.set.length≤1000000000) (hp:0≤p.at_) (ht:m.t.length≤1000000) :
  callWp Try.prog 101 [.rf 0 0 0 0,.d (.el re.cells),p.v] m.objs fun v s=>v=rsM (setM m.t re p).1 (setM m.t re p).2∧s=m.objs:=by
 have hall:=mm_all m
 have hmok:=mm_ok' m 9 (by omega)
 obtain⟨Q,hQ⟩:∃Q,Q=re.set:=⟨_,rfl⟩
 rw[← hQ] at hset
 by_cases hq:p.at_ < m.t.length
 ·have hr1:setM m.t re p=if inB Q (tAt m.t p.at_)=true then ({ p with at_:=p.at_ + 1 },true) else (.zero,false):=by
   rw[setM,hQ]; simp only[hq,true_and]
  rw[hr1]
  have hq':¬(m.t.length:Int)≤p.at_:=by omega
  have w1:IntKind.i64.wrap (p.at_ + 1)=p.at_ + 1:=w64 _ (by omega)
  have hgo:m.t[p.at_.toNat]?=some (tAt m.t p.at_):=tAt_get hp hq
  have hObj:m.objs++[⟨0,true,3,[p.cells.map .d]⟩,⟨0,true,3,[MPl.zero.cells.map .d]⟩]=m.objs++[⟨0,true,3,[p.cells.map .d]⟩,⟨0,true,3,[[.d (iD 0),.d (.sc (.pointer none)),.d (.sc (.pointer none))]]⟩]:=rfl
  generalize hO:m.objs=O at hmok hObj
  have hOl:O.length=7:=by rw[← hO]; rfl
  unfold Mm.objs at hO
  rw[← hO]
  simp only[intsD]
  refine fn_ok Try.func101 rfl Try.ntmps101 Try.results101 rfl 7 15032387047 (by exact Nat.le_refl _) (by simp) ?_
  simp only[zX,Nat.reduceShiftRight,Nat.reduceMod,Nat.reduceLT,Nat.reduceMul,Nat.reduceSub,Int.reduceToNat,Int.reduceNeg,Int.reduceLT,Int.reduceLE,Int.reduceEq,Nat.reduceEqDiff,Nat.reduceAdd,Nat.reduceLeDiff,reduceIte,reduceCtorEq,Nat.reduceBEq,i64,bV,iD,bD,List.cons_append,List.nil_append,List.map_cons,List.map_nil,MPl.v,MPl.cells,rsM,Re.cells_eq]
  refine draw_c mix [] [] (by rfl) ?_
  simp only[zX,Nat.reduceShiftRight,Nat.reduceMod,Nat.reduceLT,Nat.reduceMul,Nat.reduceSub,Int.reduceToNat,Int.reduceNeg,Int.reduceLT,Int.reduceLE,Int.reduceEq,Nat.reduceEqDiff,Nat.reduceAdd,Nat.reduceLeDiff,reduceIte,reduceCtorEq,Nat.reduceBEq,i64,bV,iD,bD,List.cons_append,List.nil_append,List.map_cons,List.map_nil,MPl.v,MPl.cells,rsM,hq',ge_iff_le,Re.cells_eq]
  refine draw_c mix [] [] (by rfl) ?_
  simp only[zX,Nat.reduceShiftRight,Nat.reduceMod,Nat.reduceLT,Nat.reduceMul,Nat.reduceSub,Int.reduceToNat,Int.reduceNeg,Int.reduceLT,Int.reduceLE,Int.reduceEq,Nat.reduceEqDiff,Nat.reduceAdd,Nat.reduceLeDiff,reduceIte,reduceCtorEq,Nat.reduceBEq,i64,bV,iD,bD,List.cons_append,List.nil_append,List.map_cons,List.map_nil,MPl.v,MPl.cells,rsM,Re.cells_eq,hp,hq,hgo,Nat.zero_add]
  refine loop_rule (fun n e s=>∃i:Nat,n=Q.length - i∧i≤Q.length∧e 0=.rf 0 0 0 0∧e 5=.rf 7 0 0 0∧e 6=.rf 8 0 0 0∧e 8=i64 (tAt m.t p.at_)∧e 31=.d (.sl (Q.map spanC))∧e 32=i64 Q.length∧e 33=i64 i ∧
    s=O++[⟨0,true,3,[p.cells.map .d]⟩,⟨0,true,3,[[.d (iD 0),.d (.sc (.pointer none)),.d (.sc (.pointer none))]]⟩]∧inB (Q.take i) (tAt m.t p.at_)=false)
   ⟨_,_,_,Cln.refl,0,by rw[hQ],by omega,rfl,rfl,rfl,rfl,by rw[hQ]; rfl,by rw[hQ]; rfl,rfl,by rw[← hO]; rfl,rfl⟩ ?_
  rintro n e s ⟨i,rfl,hi,h0,h5,h6,h8,h31,h32,h33,rfl,hno⟩
  rw[← hO]
  try simp only[intsD]
  rcases Nat.lt_or_ge i Q.length with hlt | hge
  ·obtain⟨y,hy⟩:∃y,Q[i]?=some y:=⟨_,List.getElem?_eq_getElem hlt⟩
   by_cases c1:y.1≤tAt m.t p.at_
   ·by_cases c2:tAt m.t p.at_≤y.2
    ·rw[inB_pos hy c1 c2]
     simp only[zX,Nat.reduceShiftRight,Nat.reduceMod,Nat.reduceLT,Nat.reduceMul,Nat.reduceSub,Int.reduceToNat,Int.reduceNeg,Int.reduceLT,Int.reduceLE,Int.reduceEq,Nat.reduceEqDiff,Nat.reduceAdd,Nat.reduceLeDiff,reduceIte,reduceCtorEq,Nat.reduceBEq,i64,bV,iD,bD,List.cons_append,List.nil_append,List.map_cons,List.map_nil,MPl.v,MPl.cells,rsM,Re.cells_eq,h0,h5,h6,h8,h31,h32,h33,hlt,hy,spanC,c1,c2,w1]
     exact hall
    ·simp only[zX,Nat.reduceShiftRight,Nat.reduceMod,Nat.reduceLT,Nat.reduceMul,Nat.reduceSub,Int.reduceToNat,Int.reduceNeg,Int.reduceLT,Int.reduceLE,Int.reduceEq,Nat.reduceEqDiff,Nat.reduceAdd,Nat.reduceLeDiff,reduceIte,reduceCtorEq,Nat.reduceBEq,i64,bV,iD,bD,List.cons_append,List.nil_append,List.map_cons,List.map_nil,MPl.v,MPl.cells,rsM,Re.cells_eq,h0,h5,h6,h8,h31,h32,h33,hlt,hy,spanC,c1,c2]
     refine⟨Q.length - (i + 1),_,_,by omega,Cln.cut (s':=O++[⟨0,true,3,[p.cells.map .d]⟩,⟨0,true,3,[[.d (iD 0),.d (.sc (.pointer none)),.d (.sc (.pointer none))]]⟩]) 9 (by omega) (by rw[← hO]; rfl) ?_ [0,5,6,8,31,32,33] ?_,i + 1,rfl,hlt,?_,?_,?_,?_,?_,?_,?_,by rw[← hO]; rfl,inB_neg hy hno (fun h=>c2 h.2)⟩ <;> (try simp only[zU,Nat.reduceBEq,Nat.reduceShiftRight,Nat.reduceMod,Nat.reduceEqDiff,reduceIte])
     ·rw[List.all_append,hmok]; rfl
     ·simp [updE,trimE_app,refsV,i64,h0,h5,h6,h8,h31,h32,h33]
     ·exact h0
     ·exact h5
     ·exact h6
     ·exact h8
     ·exact h31
     ·exact h32
     ·rw[w64 _ (by omega)]; rfl
   ·simp only[zX,Nat.reduceShiftRight,Nat.reduceMod,Nat.reduceLT,Nat.reduceMul,Nat.reduceSub,Int.reduceToNat,Int.reduceNeg,Int.reduceLT,Int.reduceLE,Int.reduceEq,Nat.reduceEqDiff,Nat.reduceAdd,Nat.reduceLeDiff,reduceIte,reduceCtorEq,Nat.reduceBEq,i64,bV,iD,bD,List.cons_append,List.nil_append,List.map_cons,List.map_nil,MPl.v,MPl.cells,rsM,Re.cells_eq,h0,h5,h6,h8,h31,h32,h33,hlt,hy,spanC,c1]
    refine⟨Q.length - (i + 1),_,_,by omega,Cln.cut (s':=O++[⟨0,true,3,[p.cells.map .d]⟩,⟨0,true,3,[[.d (iD 0),.d (.sc (.pointer none)),.d (.sc (.pointer none))]]⟩]) 9 (by omega) (by rw[← hO]; rfl) ?_ [0,5,6,8,31,32,33] ?_,i + 1,rfl,hlt,?_,?_,?_,?_,?_,?_,?_,by rw[← hO]; rfl,inB_neg hy hno (fun h=>c1 h.1)⟩ <;> (try simp only[zU,Nat.reduceBEq,Nat.reduceShiftRight,Nat.reduceMod,Nat.reduceEqDiff,reduceIte])
    ·rw[List.all_append,hmok]; rfl
    ·simp [updE,trimE_app,refsV,i64,h0,h5,h6,h8,h31,h32,h33]
    ·exact h0
    ·exact h5
    ·exact h6
    ·exact h8
    ·exact h31
    ·exact h32
    ·rw[w64 _ (by omega)]; rfl
  ·have hie:i=Q.length:=by omega
   subst hie
   rw[List.take_length] at hno
   rw[hno]
   simp only[zX,Nat.reduceShiftRight,Nat.reduceMod,Nat.reduceLT,Nat.reduceMul,Nat.reduceSub,Int.reduceToNat,Int.reduceNeg,Int.reduceLT,Int.reduceLE,Int.reduceEq,Nat.reduceEqDiff,Nat.reduceAdd,Nat.reduceLeDiff,reduceIte,reduceCtorEq,Nat.reduceBEq,i64,bV,iD,bD,List.cons_append,List.nil_append,List.map_cons,List.map_nil,MPl.v,MPl.cells,rsM,Re.cells_eq,h0,h5,h6,h8,h31,h32,h33,Nat.lt_irrefl,Bool.false_eq_true,if_false]
   exact⟨hall,rfl⟩
 ·have hr1:setM m.t re p=(.zero,false):=by rw[setM,if_neg (fun h=>hq h.1)]
  rw[hr1]
  have hq':(m.t.length:Int)≤p.at_:=by omega
  unfold Mm.objs
  try simp only[intsD]
  refine fn_ok Try.func101 rfl Try.ntmps101 Try.results101 rfl 7 15032387047 (by exact Nat.le_refl _) (by simp) ?_
  simp only[zX,Nat.reduceShiftRight,Nat.reduceMod,Nat.reduceLT,Nat.reduceMul,Nat.reduceSub,Int.reduceToNat,Int.reduceNeg,Int.reduceLT,Int.reduceLE,Int.reduceEq,Nat.reduceEqDiff,Nat.reduceAdd,Nat.reduceLeDiff,reduceIte,reduceCtorEq,Nat.reduceBEq,i64,bV,iD,bD,List.cons_append,List.nil_append,List.map_cons,List.map_nil,MPl.v,MPl.cells,rsM,Re.cells_eq]
  refine draw_c mix [] [] (by rfl) ?_
  simp only[zX,Nat.reduceShiftRight,Nat.reduceMod,Nat.reduceLT,Nat.reduceMul,Nat.reduceSub,Int.reduceToNat,Int.reduceNeg,Int.reduceLT,Int.reduceLE,Int.reduceEq,Nat.reduceEqDiff,Nat.reduceAdd,Nat.reduceLeDiff,reduceIte,reduceCtorEq,Nat.reduceBEq,i64,bV,iD,bD,List.cons_append,List.nil_append,List.map_cons,List.map_nil,MPl.v,MPl.cells,rsM,hq',ge_iff_le,Re.cells_eq]
  exact⟨hall,rfl⟩
end Go.Proofs.Ytpppfpaalcbggaa
