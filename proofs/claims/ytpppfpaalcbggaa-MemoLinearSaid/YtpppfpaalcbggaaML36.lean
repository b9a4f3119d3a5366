/- A part of the proof (S1 S2 S3 S4). -/
import Derived.Test.YtpppfpaalcbggaaML19
set_option linter.unusedSimpArgs false
set_option linter.unusedVariables false
set_option maxRecDepth 100000
set_option maxHeartbeats 80000000
namespace Go.Proofs.Ytpppfpaalcbggaa
open Go.VL Go.Proofs.Try
def reP (re:Re) (ext:List D):D:=.el (re.cells++ext)
def mP (b a:Nat):D:=.sc (.pointer (some ⟨b,a,none⟩))
inductive SGoal where
 | nil
 | tree (re:Re) (ext:List D) (next:SGoal)
 | round (re:Re) (ext:List D) (k:Int) (next:SGoal)
 | moved (at_:Int) (re:Re) (ext:List D) (k:Int) (next:SGoal)
 | fin (frm:Int) (re:Re) (ext:List D) (next:SGoal)
 | here (at_:Int) (c:Option CapsL) (t:SGoal) (next:SGoal)
def caps9 (c:CapsL):D:=.el (c.flatMap fun p=>[iD p.1,iD p.2])
def capsO:Option CapsL→D
 | some c=>caps9 c
 | none=>.sc (.pointer none)
def roundC (b a:Nat) (re:Re) (ext:List D) (k:Int):D:=.cl (.func 106) [] [.el [mP b a],.el [reP re ext],.el [iD k]]
def SGoal.d (b a:Nat):SGoal→D
 | .nil=>.sc (.pointer none)
 | .tree re ext next=>.el [.cl (.func 84) [] [.el [reP re ext],.el [mP b a]],next.d b a]
 | .round re ext k next=>.el [roundC b a re ext k,next.d b a]
 | .moved at_ re ext k next=>.el [.cl (.func 107) [] [.el [iD at_],.el [roundC b a re ext k]],next.d b a]
 | .fin frm re ext next=>.el [.cl (.func 95) [] [.el [iD frm],.el [reP re ext]],next.d b a]
 | .here at_ c t next=>.el [.cl (.func 98) [] [.el [iD at_,capsO c,t.d b a]],next.d b a]
structure SPlace where
 at_:Int
 caps:Option CapsL
 todo:SGoal
def SPlace.cells (b a:Nat) (p:SPlace):List D:=[iD p.at_,capsO p.caps,p.todo.d b a]
def SPlace.v (b a:Nat) (p:SPlace):V:=.ag ((p.cells b a).map .d)
def SPlace.zero:SPlace:=⟨0,none,.nil⟩
def srV (b a:Nat) (p:SPlace) (alive:Bool):V:=.tu [p.v b a,bV alive]
structure Smt where
 p:Pat
 t:List Int
 stk:List SPlace
 top:Nat
 gen:Nat
 start:Int
 steps:Int
 fuel:Int
 spent:Bool
def opsE:List (List V):=([(0,72),(1,73),(2,74),(3,75),(4,76),(5,77),(6,78),(7,79),(8,80),(9,81),(10,82),(11,83)]:List (Int × Nat)).map
 fun x=>[.d (iD x.1),.d (.sc (.func (.func x.2) ⟨[]⟩ ⟨[]⟩))]
def Smt.objs (g b a:Nat) (m:Smt):List VL.Obj :=
 [⟨g,true,8,[[.d (.el (patC0 m.p)),.d (intsD m.t),.mp 1 0,.so 2 m.gen 0 m.top,i64 m.start,i64 m.steps,i64 m.fuel,bV m.spent]]⟩,
  ⟨0,true,2,opsE⟩,⟨m.gen,true,3,m.stk.map fun p=>(p.cells b a).map .d⟩]
where patC0 (p:Pat):List D:=p.re.cells++[iD p.caps,bD p.runes]
def Smt.step (m:Smt):Smt:=if m.fuel≤m.steps then { m with spent:=true } else { m with steps:=m.steps + 1 }
theorem sobj_ok (m:Smt) (b a n:Nat):((opsE.all fun e=>e.all (refsV n))&&(m.stk.map fun p=>(p.cells b a).map V.d).all fun e=>e.all (refsV n))=true:=by
 have h1:(opsE.all fun e=>e.all (refsV n))=true:=rfl
 rw[h1,Bool.true_and,List.all_eq_true]
 intro e he
 obtain⟨p,_,rfl⟩:=List.mem_map.1 he
 rfl
theorem rawAt_bx {e0 v:V}:rawAt e0 (.bx v)=.bx v:=(rfl)
theorem cells_pp {id g i off b a:Nat}:cellsV (.pp id g i off b a)=some [.pp id g i off b a]:=rfl
theorem step_okS (g b a:Nat) (m:Smt) (h0:0≤m.steps) (h1:m.steps≤10000000000000):callWp prog 85 [.pp 0 g 0 0 b a] (m.objs g b a) fun v s=>v=bV (decide (m.steps < m.fuel))∧s=m.step.objs g b a:=by
 have w1:IntKind.i64.wrap (m.steps + 1)=m.steps + 1:=w64 _ (by omega)
 unfold Smt.step Smt.objs
 by_cases hc:m.fuel≤m.steps
 ·rw[if_pos hc,decide_eq_false (by omega)]
  refine fn_ok func85 rfl ntmps85 results85 rfl 3 5 (by simp) (by simp) ?_
  simp only[zX,Nat.reduceShiftRight,Nat.reduceMod,Nat.reduceLT,Nat.reduceMul,Nat.reduceSub,Int.reduceToNat,Int.reduceNeg,Int.reduceLT,Int.reduceLE,Int.reduceEq,Nat.reduceEqDiff,Nat.reduceAdd,Nat.reduceLeDiff,reduceIte,reduceCtorEq,Nat.reduceBEq,i64,bV,ge_iff_le]
  refine draw_c mix [] [] (by rfl) ?_
  simp only[zX,Nat.reduceShiftRight,Nat.reduceMod,Nat.reduceLT,Nat.reduceMul,Nat.reduceSub,Int.reduceToNat,Int.reduceNeg,Int.reduceLT,Int.reduceLE,Int.reduceEq,Nat.reduceEqDiff,Nat.reduceAdd,Nat.reduceLeDiff,reduceIte,reduceCtorEq,Nat.reduceBEq,i64,bV,ge_iff_le,hc]
  exact sobj_ok m b a 3
 ·rw[if_neg hc,decide_eq_true (by omega)]
  refine fn_ok func85 rfl ntmps85 results85 rfl 3 5 (by simp) (by simp) ?_
  simp only[zX,Nat.reduceShiftRight,Nat.reduceMod,Nat.reduceLT,Nat.reduceMul,Nat.reduceSub,Int.reduceToNat,Int.reduceNeg,Int.reduceLT,Int.reduceLE,Int.reduceEq,Nat.reduceEqDiff,Nat.reduceAdd,Nat.reduceLeDiff,reduceIte,reduceCtorEq,Nat.reduceBEq,i64,bV,ge_iff_le]
  refine draw_c mix [] [] (by rfl) ?_
  simp only[zX,Nat.reduceShiftRight,Nat.reduceMod,Nat.reduceLT,Nat.reduceMul,Nat.reduceSub,Int.reduceToNat,Int.reduceNeg,Int.reduceLT,Int.reduceLE,Int.reduceEq,Nat.reduceEqDiff,Nat.reduceAdd,Nat.reduceLeDiff,reduceIte,reduceCtorEq,Nat.reduceBEq,i64,bV,ge_iff_le,hc,w1]
  exact sobj_ok m b a 3
theorem put_okS (g b a:Nat) (m:Smt) (re:Re) (ext:List D) (next:SGoal):callWp prog 63 [.pp 0 g 0 0 b a,.d (reP re ext),.d (next.d b a)] (m.objs g b a) fun v s=>v=.d ((SGoal.tree re ext next).d b a)∧s=m.objs g b a:=by
 unfold Smt.objs
 refine fn_ok func63 rfl ntmps63 results63 rfl 3 223 (by simp) (by simp) ?_
 simp only[zX,Nat.reduceShiftRight,Nat.reduceMod,Nat.reduceLT,Nat.reduceMul,Nat.reduceSub,Int.reduceToNat,Int.reduceNeg,Int.reduceLT,Int.reduceLE,Int.reduceEq,Nat.reduceEqDiff,Nat.reduceAdd,Nat.reduceLeDiff,reduceIte,reduceCtorEq,Nat.reduceBEq,i64,bV,cells_pp]
 exact⟨sobj_ok m b a 3,rfl⟩
theorem sren (g b a:Nat) (m:Smt):(m.objs g b a).map (renO [0,1,2])=m.objs g b a:=by
 unfold Smt.objs
 simp only[List.map_cons,List.map_nil,List.cons.injEq,and_true]
 refine⟨?_,?_,?_⟩
 ·unfold renO
  simp [renV.go,renV,i64,bV]
 ·rfl
 ·unfold renO
  simp only[List.map_map]
  congr 1
theorem sobjs_all (g b a:Nat) (m:Smt) (n:Nat) (hn:3≤n):(m.objs g b a).all (objOk n)=true:=by
 have h:=sobj_ok m b a n
 unfold Smt.objs
 simp only[List.all_cons,List.all_nil,Bool.and_true,objOk] at h ⊢
 rw[h]
 simp [refsV,i64,bV]
 omega
theorem call_sm {f:FuncId} {g b a:Nat} {cargs:List V} {m m':Smt} {r:V} (h:callWp prog f cargs (m.objs g b a) fun v s=>v=r∧s=m'.objs g b a)
  (ha:cargs.map (renV [0,1,2])=cargs) (hra:refsV.go 3 cargs=true) (hr:renV [0,1,2] r=r) (ext:List VL.Obj):callWp prog f cargs (m.objs g b a++ext) fun v s=>v=r∧s=m'.objs g b a++ext:=by
 refine call_map [0,1,2] h (by decide) (by rfl) ?_ ha.symm hra (sobjs_all g b a m 3 (Nat.le_refl _)) hr ?_
 ·have e:(m.objs g b a).map (fun o=>some (renO [0,1,2] o))=(m.objs g b a).map some:=by
   conv=>rhs; rw[← sren g b a m]
   rw[List.map_map]; rfl
  rw[e]; rfl
 ·rw[sren g b a m']
  exact⟨rfl,rfl⟩
theorem flat_len' (c:CapsL):(c.flatMap fun p=>[iD p.1,iD p.2]).length=2 * c.length:=by
 induction c with
 | nil=>rfl
 | cons x l ih=>simp only[List.flatMap_cons,List.length_append,List.length_cons,List.length_nil,ih]; omega
theorem flat_len {c:CapsL} (h:c.length=9):(c.flatMap fun p=>[iD p.1,iD p.2]).length=18:=by rw[flat_len',h]
theorem flat_drop (c:CapsL):∀k:Nat,(c.flatMap fun p=>[iD p.1,iD p.2]).drop (2 * k)=(c.drop k).flatMap fun p=>[iD p.1,iD p.2]:=by
 induction c with
 | nil=>intro k; simp
 | cons x l ih =>
  intro k
  cases k with
  | zero=>rfl
  | succ k=>rw[show 2 * (k + 1)=2 * k + 2 by omega]; exact ih k
theorem flat_at {c:CapsL} {k:Nat} {x:Int × Int} (h:c[k]?=some x):∃l,(c.flatMap fun p=>[iD p.1,iD p.2]).drop (2 * k)=iD x.1::iD x.2::l:=by
 rw[flat_drop]
 obtain⟨hlt,he⟩:=List.getElem?_eq_some_iff.1 h
 rw[List.drop_eq_getElem_cons hlt,he]
 exact⟨_,rfl⟩
theorem round_okS (g b a:Nat) (m:Smt) (re:Re) (ext:List D) (k:Int):callWp prog 93 [.pp 0 g 0 0 b a,.d (reP re ext),i64 k] (m.objs g b a) fun v s=>v=.d (roundC b a re ext k)∧s=m.objs g b a:=by
 unfold Smt.objs
 refine fn_ok func93 rfl ntmps93 results93 rfl 3 127 (by simp) (by simp) ?_
 simp only[zX,Nat.reduceShiftRight,Nat.reduceMod,Nat.reduceLT,Nat.reduceMul,Nat.reduceSub,Int.reduceToNat,Int.reduceNeg,Int.reduceLT,Int.reduceLE,Int.reduceEq,Nat.reduceEqDiff,Nat.reduceAdd,Nat.reduceLeDiff,reduceIte,reduceCtorEq,Nat.reduceBEq,i64,bV,cells_pp]
 exact⟨sobj_ok m b a 3,rfl⟩
theorem after_okS (b a:Nat) (p:SPlace) (f:Bool) (next:SGoal):PureOK prog 94 [p.v b a,bV f,.d (next.d b a)] (srV b a { p with todo:=next } f):=by
 refine fn_ok func94 rfl ntmps94 results94 rfl 0 207 (by simp) (by simp) ?_
 simp only[zX,Nat.reduceShiftRight,Nat.reduceMod,Nat.reduceLT,Nat.reduceMul,Nat.reduceSub,Int.reduceToNat,Int.reduceNeg,Int.reduceLT,Int.reduceLE,Int.reduceEq,Nat.reduceEqDiff,Nat.reduceAdd,Nat.reduceLeDiff,reduceIte,reduceCtorEq,Nat.reduceBEq,i64,bV,SPlace.v,SPlace.cells,srV,List.map_cons,List.map_nil]
theorem look_okS (b a:Nat) (re:Re) (ext:List D) (p q:SPlace) (f:Bool):PureOK prog 97 [.d (reP re ext),p.v b a,q.v b a,bV f] (srV b a (if re.neg=true then p else { p with caps:=q.caps }) (if re.neg=true then !f else f)):=by
 refine fn_ok func97 rfl ntmps97 results97 rfl 0 879 (by simp) (by simp) ?_
 cases hn:re.neg with
 | true =>
  simp only[zX,Nat.reduceShiftRight,Nat.reduceMod,Nat.reduceLT,Nat.reduceMul,Nat.reduceSub,Int.reduceToNat,Int.reduceNeg,Int.reduceLT,Int.reduceLE,Int.reduceEq,Nat.reduceEqDiff,Nat.reduceAdd,Nat.reduceLeDiff,reduceIte,reduceCtorEq,Nat.reduceBEq,i64,bV,iD,bD,SPlace.v,SPlace.cells,srV,reP,Re.cells_eq,List.cons_append,List.nil_append,List.map_cons,List.map_nil,hn]
 | false =>
  simp only[zX,Nat.reduceShiftRight,Nat.reduceMod,Nat.reduceLT,Nat.reduceMul,Nat.reduceSub,Int.reduceToNat,Int.reduceNeg,Int.reduceLT,Int.reduceLE,Int.reduceEq,Nat.reduceEqDiff,Nat.reduceAdd,Nat.reduceLeDiff,reduceIte,reduceCtorEq,Nat.reduceBEq,i64,bV,iD,bD,SPlace.v,SPlace.cells,srV,reP,Re.cells_eq,List.cons_append,List.nil_append,List.map_cons,List.map_nil,hn]
theorem here_okS (b a:Nat) (p:SPlace) (at_:Int) (c t:D):PureOK prog 98 [i64 p.at_,.d (capsO p.caps),.d (p.todo.d b a),.d (.el [iD at_,c,t])] (srV b a p (decide (p.at_=at_))):=by
 refine fn_ok func98 rfl ntmps98 results98 rfl 0 399 (by simp) (by simp) ?_
 simp only[zX,Nat.reduceShiftRight,Nat.reduceMod,Nat.reduceLT,Nat.reduceMul,Nat.reduceSub,Int.reduceToNat,Int.reduceNeg,Int.reduceLT,Int.reduceLE,Int.reduceEq,Nat.reduceEqDiff,Nat.reduceAdd,Nat.reduceLeDiff,reduceIte,reduceCtorEq,Nat.reduceBEq,i64,bV,srV,SPlace.v,SPlace.cells,iD,rawAt_bx,List.map_cons,List.map_nil]
 refine draw_c mix [] [(8,[0],[0])] (by rfl) ?_
 simp only[zX,Nat.reduceShiftRight,Nat.reduceMod,Nat.reduceLT,Nat.reduceMul,Nat.reduceSub,Int.reduceToNat,Int.reduceNeg,Int.reduceLT,Int.reduceLE,Int.reduceEq,Nat.reduceEqDiff,Nat.reduceAdd,Nat.reduceLeDiff,reduceIte,reduceCtorEq,Nat.reduceBEq,i64,bV,srV,SPlace.v,SPlace.cells,iD,rawAt_bx,List.map_cons,List.map_nil]
theorem reP_kid (k:Re):D.el k.cells=reP k []:=by unfold reP; rw[List.append_nil]
theorem empty_okS (g b a:Nat) (m:Smt) (re:Re) (ext:List D) (p:SPlace):callWp prog 72 [.pp 0 g 0 0 b a,.d (reP re ext),p.v b a] (m.objs g b a) fun v s=>v=srV b a p true∧s=m.objs g b a:=by
 unfold Smt.objs
 refine fn_ok func72 rfl ntmps72 results72 rfl 3 228 (by simp) (by simp) ?_
 simp only[zX,Nat.reduceShiftRight,Nat.reduceMod,Nat.reduceLT,Nat.reduceMul,Nat.reduceSub,Int.reduceToNat,Int.reduceNeg,Int.reduceLT,Int.reduceLE,Int.reduceEq,Nat.reduceEqDiff,Nat.reduceAdd,Nat.reduceLeDiff,reduceIte,reduceCtorEq,Nat.reduceBEq,i64,bV,iD,srV,SPlace.v,SPlace.cells,List.map_cons,List.map_nil]
 exact sobj_ok m b a 3
theorem capture_okS (g b a:Nat) (m:Smt) (re:Re) (ext0:List D) (p:SPlace) {kid:Re} {l:List Re} (hk:re.kids=kid::l):callWp prog 77 [.pp 0 g 0 0 b a,.d (reP re ext0),p.v b a] (m.objs g b a) fun v s=>v=srV b a { p with todo:=.tree kid [] (.fin p.at_ re ext0 p.todo) } true∧s=m.objs g b a:=by
 have hput:=fun ext=>call_sm (put_okS g b a m kid [] (.fin p.at_ re ext0 p.todo)) rfl rfl rfl ext
 have hM:=sobj_ok m b a 3
 rw[← reP_kid] at hput
 unfold Smt.objs at *
 simp only[i64,bV,SGoal.d,iD,reP,Re.cells_eq re,List.cons_append,List.nil_append,SPlace.cells,List.map_cons,List.map_nil,List.append_nil] at hput
 refine fn_ok func77 rfl ntmps77 results77 rfl 3 1015 (by simp) (by simp) ?_
 simp only[zX,Nat.reduceShiftRight,Nat.reduceMod,Nat.reduceLT,Nat.reduceMul,Nat.reduceSub,Int.reduceToNat,Int.reduceNeg,Int.reduceLT,Int.reduceLE,Int.reduceEq,Nat.reduceEqDiff,Nat.reduceAdd,Nat.reduceLeDiff,reduceIte,reduceCtorEq,Nat.reduceBEq,i64,bV,iD,srV,SPlace.v,SPlace.cells,List.map_cons,List.map_nil]
 refine draw_first Cln0.reserve ?_
 refine draw_c mix [11,13] [(10,[7],[7])] (by rfl) ?_
 simp only[zX,Nat.reduceShiftRight,Nat.reduceMod,Nat.reduceLT,Nat.reduceMul,Nat.reduceSub,Int.reduceToNat,Int.reduceNeg,Int.reduceLT,Int.reduceLE,Int.reduceEq,Nat.reduceEqDiff,Nat.reduceAdd,Nat.reduceLeDiff,reduceIte,reduceCtorEq,Nat.reduceBEq,i64,bV,iD,srV,SPlace.v,SPlace.cells,List.map_cons,List.map_nil,reP,Re.cells_eq re,List.cons_append,List.nil_append,hk,List.length_cons,hole]
 refine⟨by omega,callD_of (call_give [3,6,7] (by simp [killO,kill1,frzV.go,frzV,frzD,hk]) (hput _)) ?_⟩
 simp only[zX,Nat.reduceShiftRight,Nat.reduceMod,Nat.reduceLT,Nat.reduceMul,Nat.reduceSub,Int.reduceToNat,Int.reduceNeg,Int.reduceLT,Int.reduceLE,Int.reduceEq,Nat.reduceEqDiff,Nat.reduceAdd,Nat.reduceLeDiff,reduceIte,reduceCtorEq,Nat.reduceBEq,i64,bV,iD,srV,SPlace.v,SPlace.cells,List.map_cons,List.map_nil,killO]
 refine⟨sobj_ok m b a 3,?_⟩
 simp only[SGoal.d,reP,Re.cells_eq re,List.append_nil,List.cons_append,List.nil_append,iD]
theorem cond_okS (g b a:Nat) (m:Smt) (re:Re) (ext:List D) (p:SPlace) {yes no:Re} {l:List Re} (hk:re.kids=yes::no::l) {x:Int × Int} (hn:1≤re.n) {c:CapsL} (hc:p.caps=some c) (hx:c[(re.n - 1).toNat]?=some x) (hl:c.length=9):callWp prog 82 [.pp 0 g 0 0 b a,.d (reP re ext),p.v b a] (m.objs g b a) fun v s=>v=srV b a { p with todo:=.tree (if 0≤x.1 then yes else no) [] p.todo } true∧s=m.objs g b a:=by
 have hput:=fun kid ext=>call_sm (put_okS g b a m kid [] p.todo) rfl rfl rfl ext
 have hlt:(re.n - 1).toNat < 9:=by rw[← hl]; exact(List.getElem?_eq_some_iff.1 hx).1
 have wn:IntKind.i64.wrap (re.n - 1)=re.n - 1:=w64 _ (by omega)
 have n0:(0:Int)≤re.n - 1:=by omega
 have n9:re.n - 1 < ((9:Nat):Int):=by omega
 have n2:(0:Int) < ((2:Nat):Int):=by omega
 have n1:(1:Int) < ((l.length + 1 + 1:Nat):Int):=by omega
 have n3:(0:Int) < ((l.length + 1 + 1:Nat):Int):=by omega
 obtain⟨tl,hd⟩:=flat_at hx
 rw[Nat.mul_comm] at hd
 obtain⟨C,hC⟩:∃C,c.flatMap (fun p=>[iD p.1,iD p.2])=C:=⟨_,rfl⟩
 have hc9:capsO p.caps=.el C:=by rw[hc,← hC]; rfl
 rw[hC] at hd
 simp only[iD] at hd
 simp only[SGoal.d,reP,List.append_nil] at hput
 unfold Smt.objs at *
 simp only[i64,bV,SPlace.cells,iD,List.map_cons,List.map_nil] at hput
 refine fn_ok func82 rfl ntmps82 results82 rfl 3 487 (by simp) (by simp) ?_
 simp only[zX,Nat.reduceShiftRight,Nat.reduceMod,Nat.reduceLT,Nat.reduceMul,Nat.reduceSub,Int.reduceToNat,Int.reduceNeg,Int.reduceLT,Int.reduceLE,Int.reduceEq,Nat.reduceEqDiff,Nat.reduceAdd,Nat.reduceLeDiff,reduceIte,reduceCtorEq,Nat.reduceBEq,i64,bV,iD,srV,SPlace.v,SPlace.cells,List.map_cons,List.map_nil,reP,Re.cells_eq re,List.cons_append,List.nil_append,hk,List.length_cons,n1]
 refine draw_c mix [] [] (by rfl) ?_
 by_cases hs:0≤x.1
 ·simp only[zX,Nat.reduceShiftRight,Nat.reduceMod,Nat.reduceLT,Nat.reduceMul,Nat.reduceSub,Int.reduceToNat,Int.reduceNeg,Int.reduceLT,Int.reduceLE,Int.reduceEq,Nat.reduceEqDiff,Nat.reduceAdd,Nat.reduceLeDiff,reduceIte,reduceCtorEq,Nat.reduceBEq,i64,bV,iD,hc9,List.cons_append,List.nil_append,hk,List.length_cons,wn,n0,n9,n2,n3,hd,ge_iff_le,hs,List.map_cons]
  refine callWp_mono (hput yes _) (fun v s' hv=>?_); obtain⟨rfl,rfl⟩:=hv
  simp only[zX,Nat.reduceShiftRight,Nat.reduceMod,Nat.reduceLT,Nat.reduceMul,Nat.reduceSub,Int.reduceToNat,Int.reduceNeg,Int.reduceLT,Int.reduceLE,Int.reduceEq,Nat.reduceEqDiff,Nat.reduceAdd,Nat.reduceLeDiff,reduceIte,reduceCtorEq,Nat.reduceBEq,i64,bV,iD,hc9]
  exact⟨sobj_ok m b a 3,by simp only[SGoal.d,reP,List.append_nil]⟩
 ·simp only[zX,Nat.reduceShiftRight,Nat.reduceMod,Nat.reduceLT,Nat.reduceMul,Nat.reduceSub,Int.reduceToNat,Int.reduceNeg,Int.reduceLT,Int.reduceLE,Int.reduceEq,Nat.reduceEqDiff,Nat.reduceAdd,Nat.reduceLeDiff,reduceIte,reduceCtorEq,Nat.reduceBEq,i64,bV,iD,hc9,List.cons_append,List.nil_append,hk,List.length_cons,wn,n0,n9,n2,n3,hd,ge_iff_le,hs,List.map_cons]
  refine callWp_mono (hput no _) (fun v s' hv=>?_); obtain⟨rfl,rfl⟩:=hv
  simp only[zX,Nat.reduceShiftRight,Nat.reduceMod,Nat.reduceLT,Nat.reduceMul,Nat.reduceSub,Int.reduceToNat,Int.reduceNeg,Int.reduceLT,Int.reduceLE,Int.reduceEq,Nat.reduceEqDiff,Nat.reduceAdd,Nat.reduceLeDiff,reduceIte,reduceCtorEq,Nat.reduceBEq,i64,bV,iD,hc9]
  exact⟨sobj_ok m b a 3,by simp only[SGoal.d,reP,List.append_nil]⟩
theorem tyOps:mapTy prog 97=none∧mapFTy prog 97=some .i64:=⟨by kernel_rfl,by kernel_rfl⟩
theorem ops_own:callWp prog 62 [] [] fun v s=>v=.mp 0 0∧s=[⟨0,true,2,opsE⟩]:=by
 refine fn_own func62 rfl ntmps62 results62 rfl 0 1 (by simp) (by simp) ?_
 simp only[zX,Nat.reduceShiftRight,Nat.reduceMod,Nat.reduceLT,Nat.reduceMul,Nat.reduceSub,Int.reduceToNat,Int.reduceNeg,Int.reduceLT,Int.reduceLE,Int.reduceEq,Nat.reduceEqDiff,Nat.reduceAdd,Nat.reduceLeDiff,reduceIte,reduceCtorEq,Nat.reduceBEq,tyOps,updFWp,mapFL,mapFG,Option.bind_some,List.find?,Option.map_some,Option.map_none,List.length_nil,List.nil_append,List.cons_append,if_true,Int.reduceBEq,List.set_cons_zero,List.length_cons,Qown,ownWp]
 exact⟨[0],by decide,rfl,rfl⟩
theorem inS_pos {l:List (Int × Int)} {x:Int} {y:Int × Int} {i:Nat} (hy:l[i]?=some y) (h1:y.1≤x) (h2:x≤y.2):inB l x=true:=by
 unfold inB; rw[List.any_eq_true]; exact⟨y,List.mem_of_getElem? hy,by rw[decide_eq_true h1,decide_eq_true h2]; rfl⟩
theorem inS_neg {l:List (Int × Int)} {x:Int} {y:Int × Int} {i:Nat} (hy:l[i]?=some y) (h:inB (l.take i) x=false) (hn:¬(y.1≤x∧x≤y.2)):inB (l.take (i + 1)) x=false:=by
 rw[take_get hy]
 unfold inB at h ⊢
 rw[List.any_append,h]
 have:(decide (y.1≤x)&&decide (x≤y.2))=false:=by
  rw[Bool.eq_false_iff]; intro hc
  simp only[Bool.and_eq_true,decide_eq_true_eq] at hc
  exact hn hc
 simp [this]
theorem set_inS (g b a:Nat) (m:Smt) (re:Re) (ext:List D) (p:SPlace) (hset:re.set.length≤1000000000) (hp:0≤p.at_) (hq:p.at_ < m.t.length) (ht:m.t.length≤1000000) :
  callWp prog 73 [.pp 0 g 0 0 b a,.d (reP re ext),p.v b a] (m.objs g b a) fun v s=>v=(if inB re.set (tAt m.t p.at_)=true then srV b a { p with at_:=p.at_ + 1 } true else srV b a .zero false)∧s=m.objs g b a:=by
 have hq':¬(m.t.length:Int)≤p.at_:=by omega
 have w1:IntKind.i64.wrap (p.at_ + 1)=p.at_ + 1:=w64 _ (by omega)
 have hM:=sobj_ok m b a 3
 have hg:=tAt_get hp hq
 unfold Smt.objs; simp only[intsD]
 refine fn_ok func73 rfl ntmps73 results73 rfl 3 15032387047 (by simp) (by simp) ?_
 simp only[zX,Nat.reduceShiftRight,Nat.reduceMod,Nat.reduceLT,Nat.reduceMul,Nat.reduceSub,Int.reduceToNat,Int.reduceNeg,Int.reduceLT,Int.reduceLE,Int.reduceEq,Nat.reduceEqDiff,Nat.reduceAdd,Nat.reduceLeDiff,reduceIte,reduceCtorEq,Nat.reduceBEq,i64,bV,iD,List.cons_append,List.nil_append,List.map_cons,List.map_nil,SPlace.v,SPlace.cells,reP,srV,SPlace.zero,capsO,SGoal.d,Re.cells_eq re]
 refine draw_c mix [] [(3,[0],[]),(4,[0],[]),(5,[0],[]),(6,[2],[]),(0,[3],[]),(1,[3],[])] (by rfl) ?_
 simp only[zX,Nat.reduceShiftRight,Nat.reduceMod,Nat.reduceLT,Nat.reduceMul,Nat.reduceSub,Int.reduceToNat,Int.reduceNeg,Int.reduceLT,Int.reduceLE,Int.reduceEq,Nat.reduceEqDiff,Nat.reduceAdd,Nat.reduceLeDiff,reduceIte,reduceCtorEq,Nat.reduceBEq,i64,bV,iD,List.cons_append,List.nil_append,List.map_cons,List.map_nil,SPlace.v,SPlace.cells,reP,srV,SPlace.zero,capsO,SGoal.d,hq',ge_iff_le,Re.cells_eq re]
 refine draw_c mix [] [(1,[0],[]),(2,[0],[]),(3,[0],[]),(4,[3],[]),(5,[3],[]),(6,[2],[]),(7,[2],[])] (by rfl) ?_
 simp only[zX,Nat.reduceShiftRight,Nat.reduceMod,Nat.reduceLT,Nat.reduceMul,Nat.reduceSub,Int.reduceToNat,Int.reduceNeg,Int.reduceLT,Int.reduceLE,Int.reduceEq,Nat.reduceEqDiff,Nat.reduceAdd,Nat.reduceLeDiff,reduceIte,reduceCtorEq,Nat.reduceBEq,i64,bV,iD,List.cons_append,List.nil_append,List.map_cons,List.map_nil,SPlace.v,SPlace.cells,reP,srV,SPlace.zero,capsO,SGoal.d,Re.cells_eq re,hp,hq,hg,Nat.zero_add]
 refine loop_rule (fun n e s=>∃i:Nat,n=re.set.length - i∧i≤re.set.length∧e 0=.pp 0 g 0 0 b a∧e 5=.rf 3 0 0 0∧e 6=.rf 4 0 0 0∧e 8=i64 (tAt m.t p.at_)∧e 31=.d (.sl (re.set.map spanC))∧e 32=i64 re.set.length∧e 33=i64 i ∧
   s=m.objs g b a++[⟨0,true,3,[(p.cells b a).map .d]⟩,⟨0,true,3,[[.d (iD 0),.d (.sc (.pointer none)),.d (.sc (.pointer none))]]⟩]∧inB (re.set.take i) (tAt m.t p.at_)=false)
  ⟨_,_,_,Cln.refl,0,rfl,by omega,rfl,rfl,rfl,rfl,rfl,rfl,rfl,?_,rfl⟩ ?_
 ·rfl
 rintro n e s ⟨i,rfl,hi,h0,h5,h6,h8,h31,h32,h33,rfl,hno⟩
 unfold Smt.objs; simp only[intsD]
 rcases Nat.lt_or_ge i re.set.length with hlt | hge
 ·obtain⟨y,hy⟩:∃y,re.set[i]?=some y:=⟨_,List.getElem?_eq_getElem hlt⟩
  by_cases c1:y.1≤tAt m.t p.at_
  ·by_cases c2:tAt m.t p.at_≤y.2
   ·rw[inS_pos hy c1 c2]
    simp only[zX,Nat.reduceShiftRight,Nat.reduceMod,Nat.reduceLT,Nat.reduceMul,Nat.reduceSub,Int.reduceToNat,Int.reduceNeg,Int.reduceLT,Int.reduceLE,Int.reduceEq,Nat.reduceEqDiff,Nat.reduceAdd,Nat.reduceLeDiff,reduceIte,reduceCtorEq,Nat.reduceBEq,i64,bV,iD,List.cons_append,List.nil_append,List.map_cons,List.map_nil,SPlace.v,SPlace.cells,reP,srV,SPlace.zero,capsO,SGoal.d,Re.cells_eq re,h0,h5,h6,h8,h31,h32,h33,hlt,hy,spanC,c1,c2,w1]
    exact hM
   ·simp only[zX,Nat.reduceShiftRight,Nat.reduceMod,Nat.reduceLT,Nat.reduceMul,Nat.reduceSub,Int.reduceToNat,Int.reduceNeg,Int.reduceLT,Int.reduceLE,Int.reduceEq,Nat.reduceEqDiff,Nat.reduceAdd,Nat.reduceLeDiff,reduceIte,reduceCtorEq,Nat.reduceBEq,i64,bV,iD,List.cons_append,List.nil_append,List.map_cons,List.map_nil,SPlace.v,SPlace.cells,reP,srV,SPlace.zero,capsO,SGoal.d,Re.cells_eq re,h0,h5,h6,h8,h31,h32,h33,hlt,hy,spanC,c1,c2]
    refine⟨re.set.length - (i + 1),_,_,by omega,Cln.cut (s':=m.objs g b a++[⟨0,true,3,[(p.cells b a).map .d]⟩,⟨0,true,3,[[.d (iD 0),.d (.sc (.pointer none)),.d (.sc (.pointer none))]]⟩]) 5 (by omega) rfl ?_ [0,5,6,8,31,32,33] ?_,i + 1,rfl,hlt,?_,?_,?_,?_,?_,?_,?_,rfl,inS_neg hy hno (fun h=>c2 h.2)⟩ <;> (try simp only[zU,Nat.reduceBEq,Nat.reduceShiftRight,Nat.reduceMod,Nat.reduceEqDiff,reduceIte])
    ·rw[List.all_append,sobjs_all g b a m 5 (by omega)]; rfl
    ·simp [updE,trimE_app,refsV,i64,h0,h5,h6,h8,h31,h32,h33]
    ·exact h0
    ·exact h5
    ·exact h6
    ·exact h8
    ·exact h31
    ·exact h32
    ·rw[w64 _ (by omega)]; rfl
  ·simp only[zX,Nat.reduceShiftRight,Nat.reduceMod,Nat.reduceLT,Nat.reduceMul,Nat.reduceSub,Int.reduceToNat,Int.reduceNeg,Int.reduceLT,Int.reduceLE,Int.reduceEq,Nat.reduceEqDiff,Nat.reduceAdd,Nat.reduceLeDiff,reduceIte,reduceCtorEq,Nat.reduceBEq,i64,bV,iD,List.cons_append,List.nil_append,List.map_cons,List.map_nil,SPlace.v,SPlace.cells,reP,srV,SPlace.zero,capsO,SGoal.d,Re.cells_eq re,h0,h5,h6,h8,h31,h32,h33,hlt,hy,spanC,c1]
   refine⟨re.set.length - (i + 1),_,_,by omega,Cln.cut (s':=m.objs g b a++[⟨0,true,3,[(p.cells b a).map .d]⟩,⟨0,true,3,[[.d (iD 0),.d (.sc (.pointer none)),.d (.sc (.pointer none))]]⟩]) 5 (by omega) rfl ?_ [0,5,6,8,31,32,33] ?_,i + 1,rfl,hlt,?_,?_,?_,?_,?_,?_,?_,rfl,inS_neg hy hno (fun h=>c1 h.1)⟩ <;> (try simp only[zU,Nat.reduceBEq,Nat.reduceShiftRight,Nat.reduceMod,Nat.reduceEqDiff,reduceIte])
   ·rw[List.all_append,sobjs_all g b a m 5 (by omega)]; rfl
   ·simp [updE,trimE_app,refsV,i64,h0,h5,h6,h8,h31,h32,h33]
   ·exact h0
   ·exact h5
   ·exact h6
   ·exact h8
   ·exact h31
   ·exact h32
   ·rw[w64 _ (by omega)]; rfl
 ·have hie:i=re.set.length:=by omega
  subst hie
  rw[List.take_length] at hno
  rw[hno]
  simp only[zX,Nat.reduceShiftRight,Nat.reduceMod,Nat.reduceLT,Nat.reduceMul,Nat.reduceSub,Int.reduceToNat,Int.reduceNeg,Int.reduceLT,Int.reduceLE,Int.reduceEq,Nat.reduceEqDiff,Nat.reduceAdd,Nat.reduceLeDiff,reduceIte,reduceCtorEq,Nat.reduceBEq,i64,bV,iD,List.cons_append,List.nil_append,List.map_cons,List.map_nil,SPlace.v,SPlace.cells,reP,srV,SPlace.zero,capsO,SGoal.d,Re.cells_eq re,h0,h5,h6,h8,h31,h32,h33,Nat.lt_irrefl,Bool.false_eq_true,if_false]
  exact hM
def pushS (kids:List Re) (next:SGoal):SGoal:=kids.foldr (fun k nx=>.tree k [] nx) next
theorem pushS_drop {kids:List Re} {j:Nat} {k:Re} (hk:kids[j]?=some k) (next:SGoal):pushS (kids.drop j) next=.tree k [] (pushS (kids.drop (j + 1)) next):=by
 obtain⟨hlt,he⟩:=List.getElem?_eq_some_iff.1 hk
 rw[List.drop_eq_getElem_cons hlt,he]
 rfl
def zeroS:VL.Obj:=⟨0,true,3,[[.d (iD 0),.d (.sc (.pointer none)),.d (.sc (.pointer none))]]⟩
def placeO (b a:Nat) (p:SPlace):VL.Obj:=⟨0,true,3,[[.d (iD p.at_),.d (capsO p.caps),.d (p.todo.d b a)]]⟩
theorem cat_okS (g b a:Nat) (m:Smt) (re:Re) (ext:List D) (p:SPlace) (hkids:re.kids.length≤1000000000):callWp prog 74 [.pp 0 g 0 0 b a,.d (reP re ext),p.v b a] (m.objs g b a) fun v s=>v=srV b a { p with todo:=pushS re.kids p.todo } true∧s=m.objs g b a:=by
 have hM:=sobj_ok m b a 3
 have wl:IntKind.i64.wrap ((re.kids.length:Int) - 1)=(re.kids.length:Int) - 1:=w64 _ (by omega)
 have hput:=fun kid next ext=>call_sm (put_okS g b a m kid [] next) rfl rfl rfl ext
 simp only[← reP_kid] at hput
 unfold Smt.objs
 refine fn_ok func74 rfl ntmps74 results74 rfl 3 487 (by simp) (by simp) ?_
 simp only[zX,Nat.reduceShiftRight,Nat.reduceMod,Nat.reduceLT,Nat.reduceMul,Nat.reduceSub,Int.reduceToNat,Int.reduceNeg,Int.reduceLT,Int.reduceLE,Int.reduceEq,Nat.reduceEqDiff,Nat.reduceAdd,Nat.reduceLeDiff,reduceIte,reduceCtorEq,Nat.reduceBEq,i64,bV,iD,srV,SPlace.v,SPlace.cells,List.map_cons,List.map_nil,reP,Re.cells_eq re,List.cons_append,List.nil_append,wl,List.length_map]
 refine loop_rule (fun n e s=>∃j:Nat,n=j∧j≤re.kids.length∧e 0=.pp 0 g 0 0 b a∧e 1=.d (reP re ext)∧e 5=.rf 3 0 0 0∧e 6=.rf 4 0 0 0∧e 8=i64 ((j:Int) - 1)∧s=m.objs g b a++[placeO b a { p with todo:=pushS (re.kids.drop j) p.todo },zeroS])
  ⟨_,_,_,Cln.refl,re.kids.length,rfl,Nat.le_refl _,rfl,?_,rfl,rfl,rfl,?_⟩ ?_
 ·unfold reP; rw[Re.cells_eq re]; rfl
 ·rw[List.drop_length]; rfl
 rintro j e s ⟨_,rfl,hj,h0,h1,h5,h6,h8,rfl⟩
 unfold Smt.objs at *
 cases j with
 | zero =>
  have h8:e 8=i64 (-1):=h8
  simp only[zX,Nat.reduceShiftRight,Nat.reduceMod,Nat.reduceLT,Nat.reduceMul,Nat.reduceSub,Int.reduceToNat,Int.reduceNeg,Int.reduceLT,Int.reduceLE,Int.reduceEq,Nat.reduceEqDiff,Nat.reduceAdd,Nat.reduceLeDiff,reduceIte,reduceCtorEq,Nat.reduceBEq,i64,bV,iD,srV,placeO,zeroS,SPlace.v,SPlace.cells,List.map_cons,List.map_nil,List.cons_append,List.nil_append,h0,h1,h5,h6,h8,ge_iff_le,List.drop_zero]
  exact hM
 | succ j =>
  obtain⟨kid,hk⟩:∃k,re.kids[j]?=some k:=⟨_,List.getElem?_eq_getElem (by omega)⟩
  have e8:(((j + 1:Nat):Int) - 1)=(j:Int):=by omega
  rw[e8] at h8
  have l0:(0:Int)≤(j:Int):=by omega
  have l1:(j:Int) < (re.kids.length:Int):=by omega
  have l2:j < re.kids.length:=by omega
  simp only[zX,Nat.reduceShiftRight,Nat.reduceMod,Nat.reduceLT,Nat.reduceMul,Nat.reduceSub,Int.reduceToNat,Int.reduceNeg,Int.reduceLT,Int.reduceLE,Int.reduceEq,Nat.reduceEqDiff,Nat.reduceAdd,Nat.reduceLeDiff,reduceIte,reduceCtorEq,Nat.reduceBEq,i64,bV,iD,srV,placeO,zeroS,SPlace.v,SPlace.cells,List.map_cons,List.map_nil,List.cons_append,List.nil_append,h0,h1,h5,h6,h8,ge_iff_le,l0]
  refine draw_c mix [9,11] [] (by rfl) ?_
  simp only[zX,Nat.reduceShiftRight,Nat.reduceMod,Nat.reduceLT,Nat.reduceMul,Nat.reduceSub,Int.reduceToNat,Int.reduceNeg,Int.reduceLT,Int.reduceLE,Int.reduceEq,Nat.reduceEqDiff,Nat.reduceAdd,Nat.reduceLeDiff,reduceIte,reduceCtorEq,Nat.reduceBEq,i64,bV,iD,srV,SPlace.v,SPlace.cells,List.map_cons,List.map_nil,List.cons_append,List.nil_append,reP,Re.cells_eq re,h0,h1,h5,h6,h8,l0,l1,l2,hk,List.length_map,Int.toNat_natCast]
  refine callD_of (hput kid _ _) ?_
  simp only[zX,Nat.reduceShiftRight,Nat.reduceMod,Nat.reduceLT,Nat.reduceMul,Nat.reduceSub,Int.reduceToNat,Int.reduceNeg,Int.reduceLT,Int.reduceLE,Int.reduceEq,Nat.reduceEqDiff,Nat.reduceAdd,Nat.reduceLeDiff,reduceIte,reduceCtorEq,Nat.reduceBEq,i64,bV,iD,srV,SPlace.v,SPlace.cells,List.map_cons,List.map_nil,List.cons_append,List.nil_append,h0,h1,h5,h6,h8]
  refine⟨j,_,_,Nat.lt_succ_self j,Cln.refl,j,rfl,by omega,?_,?_,?_,?_,?_,by rw[pushS_drop hk]⟩ <;> (try simp only[zU,Nat.reduceBEq,Nat.reduceShiftRight,Nat.reduceMod,Nat.reduceEqDiff,reduceIte])
  ·exact h0
  ·rw[h1]; unfold reP; rw[Re.cells_eq re]; rfl
  ·exact h5
  ·exact h6
  ·rw[w64 _ (by omega)]
end Go.Proofs.Ytpppfpaalcbggaa
