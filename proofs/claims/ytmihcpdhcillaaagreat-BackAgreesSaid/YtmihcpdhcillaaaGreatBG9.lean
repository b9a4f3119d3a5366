/- A part of the proof (S1 S2 S3 S4). -/
import Derived.Test.YtmihcpdhcillaaaGreatBG2
import Derived.Test.YtmihcpdhcillaaaGreatBG7
import Derived.Test.YtmihcpdhcillaaaGreatBG6
import Derived.Test.YtmihcpdhcillaaaGreatBG8
set_option linter.unusedSimpArgs false
set_option linter.unusedVariables false
set_option maxRecDepth 100000
set_option maxHeartbeats 80000000
namespace Go.Proofs.YtmihcpdhcillaaaGreat
open Go.VL Go.Proofs.Tryz
def di (re:Re) (ext:List D):D:=.el (re.cells++ext)
def mP (b a:Nat):D:=.sc (.pointer (some ⟨b,a,none⟩))
inductive aF where
 |nil
 |tree (re:Re) (ext:List D) (next:aF)
 |round (re:Re) (ext:List D) (k:Int) (next:aF)
 |dv (at_:Int) (re:Re) (ext:List D) (k:Int) (next:aF)
 |fin (cT:Int) (re:Re) (ext:List D) (next:aF)
 |here (at_:Int) (c:Option ar) (t:aF) (next:aF)
def Q8 (c:ar):D:=.el (c.flatMap fun p=>[iD p.1,iD p.2])
def dK:Option ar→D
 |some c=>Q8 c
 |none=>.sc (.pointer none)
def dW (b a:Nat) (re:Re) (ext:List D) (k:Int):D:=.cl (.func 102) [] [.el [mP b a],.el [di re ext],.el [iD k]]
def aF.d (b a:Nat):aF→D
 |.nil=>.sc (.pointer none)
 |.tree re ext next=>.el [.cl (.func 69) [] [.el [di re ext],.el [mP b a]],next.d b a]
 |.round re ext k next=>.el [dW b a re ext k,next.d b a]
 |.dv at_ re ext k next=>.el [.cl (.func 103) [] [.el [iD at_],.el [dW b a re ext k]],next.d b a]
 |.fin cT re ext next=>.el [.cl (.func 89) [] [.el [iD cT],.el [di re ext]],next.d b a]
 |.here at_ c t next=>.el [.cl (.func 92) [] [.el [iD at_,dK c,t.d b a]],next.d b a]
structure ai where
 at_:Int
 ak:Option ar
 todo:aF
def ai.cells (b a:Nat) (p:ai):List D:=[iD p.at_,dK p.ak,p.todo.d b a]
def ai.v (b a:Nat) (p:ai):V:=.ag ((p.cells b a).map .d)
def ai.zero:ai:=⟨0,none,.nil⟩
def dH (b a:Nat) (p:ai) (alive:Bool):V:=.tu [p.v b a,bV alive]
structure bp where
 p:fj
 t:List Int
 cO:List ai
 top:Nat
 gen:Nat
 start:Int
 steps:Int
 fuel:Int
 aK:Bool
def E9:List (List V):=([(0,57),(1,58),(2,59),(3,60),(4,61),(5,62),(6,63),(7,64),(8,65),(9,66),(10,67),(11,68)]:List (Int×Nat)).map
 fun x=>[.d (iD x.1),.d (.sc (.func (.func x.2) ⟨[]⟩ ⟨[]⟩))]
def bp.au (g b a:Nat) (m:bp):List VL.Obj :=
 [⟨g,true,8,[[.d (.el (JU m.p)),.d (aB m.t),.mp 1 0,.so 2 m.gen 0 m.top,i64 m.start,i64 m.steps,i64 m.fuel,bV m.aK]]⟩,
  ⟨0,true,2,E9⟩,⟨m.gen,true,3,m.cO.map fun p=>(p.cells b a).map .d⟩]
where JU (p:fj):List D:=p.re.cells++[iD p.ak,bD p.bk]
def bp.step (m:bp):bp:=if m.fuel≤m.steps then { m with aK:=true } else { m with steps:=m.steps+1 }
theorem b9 (m:bp) (b a n:Nat):((E9.all fun e=>e.all (ao n))&&(m.cO.map fun p=>(p.cells b a).map V.d).all fun e=>e.all (ao n))=true:=by
 have h1:(E9.all fun e=>e.all (ao n))=true:=rfl
 rw[h1,X0,Xn]
 intro e he
 obtain⟨p,_,rfl⟩:=List.mem_map.1 he
 rfl
theorem bc {e0 v:V}:rG e0 (.bx v)=.bx v:=(rfl)
theorem nM {id g i off b a:Nat}:ep (.pp id g i off b a)=some [.pp id g i off b a]:=rfl
theorem lO (g b a:Nat) (m:bp) (h0:0≤m.steps) (h1:m.steps≤10000000000000):av prog 70 [.pp 0 g 0 0 b a] (m.au g b a) fun v s=>v=bV (decide (m.steps<m.fuel))∧s=m.step.au g b a:=by
 have w1:IntKind.i64.wrap (m.steps+1)=m.steps+1:=bU _ (by omega)
 unfold bp.step bp.au
 by_cases hc:m.fuel≤m.steps
 ·rw[if_pos hc,decide_eq_false (by omega)]
  refine aw func70 rfl ntmps70 results70 rfl 3 5 (by simp) (by simp) ?_
  simp only[zX,simprocAttr,i64,bV,ge_iff_le]
  refine aq mix [] [] (by rfl) ?_
  simp only[zX,simprocAttr,i64,bV,ge_iff_le,hc]
  exact b9 m b a 3
 ·rw[if_neg hc,decide_eq_true (by omega)]
  refine aw func70 rfl ntmps70 results70 rfl 3 5 (by simp) (by simp) ?_
  simp only[zX,simprocAttr,i64,bV,ge_iff_le]
  refine aq mix [] [] (by rfl) ?_
  simp only[zX,simprocAttr,i64,bV,ge_iff_le,hc,w1]
  exact b9 m b a 3
theorem iV (g b a:Nat) (m:bp) (re:Re) (ext:List D) (next:aF):av prog 39 [.pp 0 g 0 0 b a,.d (di re ext),.d (next.d b a)] (m.au g b a) fun v s=>v=.d ((aF.tree re ext next).d b a)∧s=m.au g b a:=by
 unfold bp.au
 refine aw func39 rfl ntmps39 results39 rfl 3 223 (by simp) (by simp) ?_
 simp only[zX,simprocAttr,i64,bV,nM]
 exact⟨b9 m b a 3,rfl⟩
theorem P8 (g b a:Nat) (m:bp):(m.au g b a).map (bX [0,1,2])=m.au g b a:=by
 unfold bp.au
 simp only[WU,WV,X4,and_true]
 refine⟨?_,?_,?_⟩
 ·unfold bX
  simp [bF.go,bF,i64,bV]
 ·rfl
 ·unfold bX
  simp only[XS]
  congr 1
theorem la (g b a:Nat) (m:bp) (n:Nat) (hn:3≤n):(m.au g b a).all (cU n)=true:=by
 have h:=b9 m b a n
 unfold bp.au
 simp only[List.all_cons,List.all_nil,XT,cU]at h ⊢
 rw[h]
 simp [ao,i64,bV]
 omega
theorem dX {f:FuncId}{g b a:Nat}{cargs:List V}{m m':bp}{r:V} (h:av prog f cargs (m.au g b a) fun v s=>v=r∧s=m'.au g b a)
  (ha:cargs.map (bF [0,1,2])=cargs) (td:ao.go 3 cargs=true) (hr:bF [0,1,2] r=r) (ext:List VL.Obj):av prog f cargs (m.au g b a++ext) fun v s=>v=r∧s=m'.au g b a++ext:=by
 refine jt [0,1,2] h (by decide) (by rfl) ?_ ha.symm td (la g b a m 3 (W4 _)) hr ?_
 ·have e:(m.au g b a).map (fun o=>some (bX [0,1,2] o))=(m.au g b a).map some:=by
   conv=>rhs;rw[← P8 g b a m]
   rw[XS];rfl
  rw[e];rfl
 ·rw[P8 g b a m']
  exact⟨rfl,rfl⟩
theorem H6 (c:ar):(c.flatMap fun p=>[iD p.1,iD p.2]).length=2*c.length:=by
 induction c with
 |nil=>rfl
 |cons x l ih=>simp only[List.flatMap_cons,W5,W3,Xa,ih];omega
theorem xI {c:ar} (h:c.length=9):(c.flatMap fun p=>[iD p.1,iD p.2]).length=18:=by rw[H6,h]
theorem AA (c:ar):∀k:Nat,(c.flatMap fun p=>[iD p.1,iD p.2]).drop (2*k)=(c.drop k).flatMap fun p=>[iD p.1,iD p.2]:=by
 induction c with
 |nil=>intro k;simp
 |cons x l ih =>
  intro k
  cases k with
  |zero=>rfl
  |succ k=>rw[show 2*(k+1)=2*k+2 by omega];exact ih k
theorem wL {c:ar}{k:Nat}{x:Int×Int} (h:c[k]?=some x):∃l,(c.flatMap fun p=>[iD p.1,iD p.2]).drop (2*k)=iD x.1::iD x.2::l:=by
 rw[AA]
 obtain⟨aS,he⟩:=List.getElem?_eq_some_iff.1 h
 rw[XV aS,he]
 exact⟨_,rfl⟩
theorem uT (g b a:Nat) (m:bp) (re:Re) (ext:List D) (k:Int):av prog 87 [.pp 0 g 0 0 b a,.d (di re ext),i64 k] (m.au g b a) fun v s=>v=.d (dW b a re ext k)∧s=m.au g b a:=by
 unfold bp.au
 refine aw func87 rfl ntmps87 results87 rfl 3 127 (by simp) (by simp) ?_
 simp only[zX,Nat.reduceShiftRight,Nat.reduceMod,Nat.reduceLT,Nat.reduceMul,Nat.reduceSub,Int.reduceToNat,Int.reduceNeg,Int.reduceLT,Int.reduceLE,Int.reduceEq,Nat.reduceEqDiff,Nat.reduceAdd,Nat.reduceLeDiff,reduceIte,reduceCtorEq,Nat.reduceBEq,i64,bV,nM]
 exact⟨b9 m b a 3,rfl⟩
theorem zJ (b a:Nat) (p:ai) (f:Bool) (next:aF):br prog 88 [p.v b a,bV f,.d (next.d b a)] (dH b a { p with todo:=next } f):=by
 refine aw func88 rfl ntmps88 results88 rfl 0 207 (by simp) (by simp) ?_
 simp only[zX,Nat.reduceShiftRight,Nat.reduceMod,Nat.reduceLT,Nat.reduceMul,Nat.reduceSub,Int.reduceToNat,Int.reduceNeg,Int.reduceLT,Int.reduceLE,Int.reduceEq,Nat.reduceEqDiff,Nat.reduceAdd,Nat.reduceLeDiff,reduceIte,reduceCtorEq,Nat.reduceBEq,i64,bV,ai.v,ai.cells,dH,WU,WV]
theorem Dl (b a:Nat) (re:Re) (ext:List D) (p q:ai) (f:Bool):br prog 91 [.d (di re ext),p.v b a,q.v b a,bV f] (dH b a (if re.neg=true then p else { p with ak:=q.ak }) (if re.neg=true then !f else f)):=by
 refine aw func91 rfl ntmps91 results91 rfl 0 879 (by simp) (by simp) ?_
 cases hn:re.neg with
 |true =>
  simp only[zX,Nat.reduceShiftRight,Nat.reduceMod,Nat.reduceLT,Nat.reduceMul,Nat.reduceSub,Int.reduceToNat,Int.reduceNeg,Int.reduceLT,Int.reduceLE,Int.reduceEq,Nat.reduceEqDiff,Nat.reduceAdd,Nat.reduceLeDiff,reduceIte,reduceCtorEq,Nat.reduceBEq,i64,bV,iD,bD,ai.v,ai.cells,dH,di,Re.ae,WR,WS,WU,WV,hn]
 |false =>
  simp only[zX,Nat.reduceShiftRight,Nat.reduceMod,Nat.reduceLT,Nat.reduceMul,Nat.reduceSub,Int.reduceToNat,Int.reduceNeg,Int.reduceLT,Int.reduceLE,Int.reduceEq,Nat.reduceEqDiff,Nat.reduceAdd,Nat.reduceLeDiff,reduceIte,reduceCtorEq,Nat.reduceBEq,i64,bV,iD,bD,ai.v,ai.cells,dH,di,Re.ae,WR,WS,WU,WV,hn]
theorem Jq (b a:Nat) (p:ai) (at_:Int) (c t:D):br prog 92 [i64 p.at_,.d (dK p.ak),.d (p.todo.d b a),.d (.el [iD at_,c,t])] (dH b a p (decide (p.at_=at_))):=by
 refine aw func92 rfl ntmps92 results92 rfl 0 399 (by simp) (by simp) ?_
 simp only[zX,Nat.reduceShiftRight,Nat.reduceMod,Nat.reduceLT,Nat.reduceMul,Nat.reduceSub,Int.reduceToNat,Int.reduceNeg,Int.reduceLT,Int.reduceLE,Int.reduceEq,Nat.reduceEqDiff,Nat.reduceAdd,Nat.reduceLeDiff,reduceIte,reduceCtorEq,Nat.reduceBEq,i64,bV,dH,ai.v,ai.cells,iD,bc,WU,WV]
 refine aq mix [] [(8,[0],[0])] (by rfl) ?_
 simp only[zX,Nat.reduceShiftRight,Nat.reduceMod,Nat.reduceLT,Nat.reduceMul,Nat.reduceSub,Int.reduceToNat,Int.reduceNeg,Int.reduceLT,Int.reduceLE,Int.reduceEq,Nat.reduceEqDiff,Nat.reduceAdd,Nat.reduceLeDiff,reduceIte,reduceCtorEq,Nat.reduceBEq,i64,bV,dH,ai.v,ai.cells,iD,bc,WU,WV]
theorem wQ (k:Re):D.el k.cells=di k []:=by unfold di;rw[Xk]
theorem G9 (g b a:Nat) (m:bp) (re:Re) (ext:List D) (p:ai):av prog 57 [.pp 0 g 0 0 b a,.d (di re ext),p.v b a] (m.au g b a) fun v s=>v=dH b a p true∧s=m.au g b a:=by
 unfold bp.au
 refine aw func57 rfl ntmps57 results57 rfl 3 228 (by simp) (by simp) ?_
 simp only[zX,Nat.reduceShiftRight,Nat.reduceMod,Nat.reduceLT,Nat.reduceMul,Nat.reduceSub,Int.reduceToNat,Int.reduceNeg,Int.reduceLT,Int.reduceLE,Int.reduceEq,Nat.reduceEqDiff,Nat.reduceAdd,Nat.reduceLeDiff,reduceIte,reduceCtorEq,Nat.reduceBEq,i64,bV,iD,dH,ai.v,ai.cells,WU,WV]
 exact b9 m b a 3
theorem Dg (g b a:Nat) (m:bp) (re:Re) (OD:List D) (p:ai) {kid:Re}{l:List Re} (hk:re.kids=kid::l):av prog 62 [.pp 0 g 0 0 b a,.d (di re OD),p.v b a] (m.au g b a) fun v s=>v=dH b a { p with todo:=.tree kid [] (.fin p.at_ re OD p.todo) } true∧s=m.au g b a:=by
 have hput:=fun ext=>dX (iV g b a m kid [] (.fin p.at_ re OD p.todo)) rfl rfl rfl ext
 have hM:=b9 m b a 3
 rw[← wQ]at hput
 unfold bp.au at *
 simp only[i64,bV,aF.d,iD,di,Re.ae re,WR,WS,ai.cells,WU,WV,Xk]at hput
 refine aw func62 rfl ntmps62 results62 rfl 3 1015 (by simp) (by simp) ?_
 simp only[zX,Nat.reduceShiftRight,Nat.reduceMod,Nat.reduceLT,Nat.reduceMul,Nat.reduceSub,Int.reduceToNat,Int.reduceNeg,Int.reduceLT,Int.reduceLE,Int.reduceEq,Nat.reduceEqDiff,Nat.reduceAdd,Nat.reduceLeDiff,reduceIte,reduceCtorEq,Nat.reduceBEq,i64,bV,iD,dH,ai.v,ai.cells,WU,WV]
 refine aH bM.aP ?_
 refine aq mix [11,13] [(10,[7],[7])] (by rfl) ?_
 simp only[zX,Nat.reduceShiftRight,Nat.reduceMod,Nat.reduceLT,Nat.reduceMul,Nat.reduceSub,Int.reduceToNat,Int.reduceNeg,Int.reduceLT,Int.reduceLE,Int.reduceEq,Nat.reduceEqDiff,Nat.reduceAdd,Nat.reduceLeDiff,reduceIte,reduceCtorEq,Nat.reduceBEq,i64,bV,iD,dH,ai.v,ai.cells,WU,WV,di,Re.ae re,WR,WS,hk,W3,hole]
 refine⟨by omega,bu (aO [3,6,7] (by simp [aM,bf,aR.go,aR,bN,hk]) (hput _)) ?_⟩
 simp only[zX,Nat.reduceShiftRight,Nat.reduceMod,Nat.reduceLT,Nat.reduceMul,Nat.reduceSub,Int.reduceToNat,Int.reduceNeg,Int.reduceLT,Int.reduceLE,Int.reduceEq,Nat.reduceEqDiff,Nat.reduceAdd,Nat.reduceLeDiff,reduceIte,reduceCtorEq,Nat.reduceBEq,i64,bV,iD,dH,ai.v,ai.cells,WU,WV,aM]
 refine⟨b9 m b a 3,?_⟩
 simp only[aF.d,di,Re.ae re,Xk,WR,WS,iD]
theorem K0 (g b a:Nat) (m:bp) (re:Re) (ext:List D) (p:ai) {yes no:Re}{l:List Re} (hk:re.kids=yes::no::l) {x:Int×Int} (hn:1≤re.n) {c:ar} (hc:p.ak=some c) (hx:c[(re.n-1).toNat]?=some x) (hl:c.length=9):av prog 67 [.pp 0 g 0 0 b a,.d (di re ext),p.v b a] (m.au g b a) fun v s=>v=dH b a { p with todo:=.tree (if 0≤x.1 then yes else no) [] p.todo } true∧s=m.au g b a:=by
 have hput:=fun kid ext=>dX (iV g b a m kid [] p.todo) rfl rfl rfl ext
 have aS:(re.n-1).toNat<9:=by rw[← hl];exact(List.getElem?_eq_some_iff.1 hx).1
 have wn:IntKind.i64.wrap (re.n-1)=re.n-1:=bU _ (by omega)
 have n0:(0:Int)≤re.n-1:=by omega
 have n9:re.n-1<((9:Nat):Int):=by omega
 have n2:(0:Int)<((2:Nat):Int):=by omega
 have n1:(1:Int)<((l.length+1+1:Nat):Int):=by omega
 have n3:(0:Int)<((l.length+1+1:Nat):Int):=by omega
 obtain⟨tl,hd⟩:=wL hx
 rw[Nat.mul_comm]at hd
 obtain⟨C,hC⟩:∃C,c.flatMap (fun p=>[iD p.1,iD p.2])=C:=⟨_,rfl⟩
 have AU:dK p.ak=.el C:=by rw[hc,← hC];rfl
 rw[hC]at hd
 simp only[iD]at hd
 simp only[aF.d,di,Xk]at hput
 unfold bp.au at *
 simp only[i64,bV,ai.cells,iD,WU,WV]at hput
 refine aw func67 rfl ntmps67 results67 rfl 3 487 (by simp) (by simp) ?_
 simp only[zX,Nat.reduceShiftRight,Nat.reduceMod,Nat.reduceLT,Nat.reduceMul,Nat.reduceSub,Int.reduceToNat,Int.reduceNeg,Int.reduceLT,Int.reduceLE,Int.reduceEq,Nat.reduceEqDiff,Nat.reduceAdd,Nat.reduceLeDiff,reduceIte,reduceCtorEq,Nat.reduceBEq,i64,bV,iD,dH,ai.v,ai.cells,WU,WV,di,Re.ae re,WR,WS,hk,W3,n1]
 refine aq mix [] [] (by rfl) ?_
 by_cases hs:0≤x.1
 ·simp only[zX,Nat.reduceShiftRight,Nat.reduceMod,Nat.reduceLT,Nat.reduceMul,Nat.reduceSub,Int.reduceToNat,Int.reduceNeg,Int.reduceLT,Int.reduceLE,Int.reduceEq,Nat.reduceEqDiff,Nat.reduceAdd,Nat.reduceLeDiff,reduceIte,reduceCtorEq,Nat.reduceBEq,i64,bV,iD,AU,WR,WS,hk,W3,wn,n0,n9,n2,n3,hd,ge_iff_le,hs,WU]
  refine aj (hput yes _) (fun v s' hv=>?_);obtain⟨rfl,rfl⟩:=hv
  simp only[zX,Nat.reduceShiftRight,Nat.reduceMod,Nat.reduceLT,Nat.reduceMul,Nat.reduceSub,Int.reduceToNat,Int.reduceNeg,Int.reduceLT,Int.reduceLE,Int.reduceEq,Nat.reduceEqDiff,Nat.reduceAdd,Nat.reduceLeDiff,reduceIte,reduceCtorEq,Nat.reduceBEq,i64,bV,iD,AU]
  exact⟨b9 m b a 3,by simp only[aF.d,di,Xk]⟩
 ·simp only[zX,Nat.reduceShiftRight,Nat.reduceMod,Nat.reduceLT,Nat.reduceMul,Nat.reduceSub,Int.reduceToNat,Int.reduceNeg,Int.reduceLT,Int.reduceLE,Int.reduceEq,Nat.reduceEqDiff,Nat.reduceAdd,Nat.reduceLeDiff,reduceIte,reduceCtorEq,Nat.reduceBEq,i64,bV,iD,AU,WR,WS,hk,W3,wn,n0,n9,n2,n3,hd,ge_iff_le,hs,WU]
  refine aj (hput no _) (fun v s' hv=>?_);obtain⟨rfl,rfl⟩:=hv
  simp only[zX,Nat.reduceShiftRight,Nat.reduceMod,Nat.reduceLT,Nat.reduceMul,Nat.reduceSub,Int.reduceToNat,Int.reduceNeg,Int.reduceLT,Int.reduceLE,Int.reduceEq,Nat.reduceEqDiff,Nat.reduceAdd,Nat.reduceLeDiff,reduceIte,reduceCtorEq,Nat.reduceBEq,i64,bV,iD,AU]
  exact⟨b9 m b a 3,by simp only[aF.d,di,Xk]⟩
theorem Kj:AE prog 61=none∧uV prog 61=some .i64:=⟨by kernel_rfl,by kernel_rfl⟩
theorem MT:av prog 38 [] [] fun v s=>v=.mp 0 0∧s=[⟨0,true,2,E9⟩]:=by
 refine Em func38 rfl ntmps38 results38 rfl 0 1 (by simp) (by simp) ?_
 simp only[zX,Nat.reduceShiftRight,Nat.reduceMod,Nat.reduceLT,Nat.reduceMul,Nat.reduceSub,Int.reduceToNat,Int.reduceNeg,Int.reduceLT,Int.reduceLE,Int.reduceEq,Nat.reduceEqDiff,Nat.reduceAdd,Nat.reduceLeDiff,reduceIte,reduceCtorEq,Nat.reduceBEq,Kj,uP,rH,rz,XH,List.find?,XE,Option.map_none,Xa,WS,WR,if_true,Int.reduceBEq,Xh,W3,Mh,GN]
 exact⟨[0],by decide,rfl,rfl⟩
theorem MV {l:List (Int×Int)}{x:Int}{y:Int×Int}{i:Nat} (hy:l[i]?=some y) (h1:y.1≤x) (h2:x≤y.2):nn l x=true:=by
 unfold nn;rw[List.any_eq_true];exact⟨y,W6 hy,by rw[decide_eq_true h1,decide_eq_true h2];rfl⟩
theorem Gl {l:List (Int×Int)}{x:Int}{y:Int×Int}{i:Nat} (hy:l[i]?=some y) (h:nn (l.take i) x=false) (hn:¬(y.1≤x∧x≤y.2)):nn (l.take (i+1)) x=false:=by
 rw[dZ hy]
 unfold nn at h ⊢
 rw[List.any_append,h]
 have:(decide (y.1≤x)&&decide (x≤y.2))=false:=by
  rw[Xz];intro hc
  simp only[W7,decide_eq_true_eq]at hc
  exact hn hc
 simp [this]
theorem Gj (g b a:Nat) (m:bp) (re:Re) (ext:List D) (p:ai) (cC:re.set.length≤1000000000) (hp:0≤p.at_) (hq:p.at_<m.t.length) (ht:m.t.length≤1000000) :
  av prog 58 [.pp 0 g 0 0 b a,.d (di re ext),p.v b a] (m.au g b a) fun v s=>v=(if nn re.set (fX m.t p.at_)=true then dH b a { p with at_:=p.at_+1 } true else dH b a .zero false)∧s=m.au g b a:=by
 have EM:¬(m.t.length:Int)≤p.at_:=by omega
 have w1:IntKind.i64.wrap (p.at_+1)=p.at_+1:=bU _ (by omega)
 have hM:=b9 m b a 3
 have hg:=iA hp hq
 unfold bp.au;simp only[aB]
 refine aw func58 rfl ntmps58 results58 rfl 3 15032387047 (by simp) (by simp) ?_
 simp only[zX,simprocAttr,i64,bV,iD,WR,WS,WU,WV,ai.v,ai.cells,di,dH,ai.zero,dK,aF.d,Re.ae re]
 refine aq mix [] [(3,[0],[]),(4,[0],[]),(5,[0],[]),(6,[2],[]),(0,[3],[]),(1,[3],[])] (by rfl) ?_
 simp only[zX,simprocAttr,i64,bV,iD,WR,WS,WU,WV,ai.v,ai.cells,di,dH,ai.zero,dK,aF.d,EM,ge_iff_le,Re.ae re]
 refine aq mix [] [(1,[0],[]),(2,[0],[]),(3,[0],[]),(4,[3],[]),(5,[3],[]),(6,[2],[]),(7,[2],[])] (by rfl) ?_
 simp only[zX,simprocAttr,i64,bV,iD,WR,WS,WU,WV,ai.v,ai.cells,di,dH,ai.zero,dK,aF.d,Re.ae re,hp,hq,hg,Xi]
 refine aX (fun n e s=>∃i:Nat,n=re.set.length-i∧i≤re.set.length∧e 0=.pp 0 g 0 0 b a∧e 5=.rf 3 0 0 0∧e 6=.rf 4 0 0 0∧e 8=i64 (fX m.t p.at_)∧e 31=.d (.sl (re.set.map aT))∧e 32=i64 re.set.length∧e 33=i64 i ∧
   s=m.au g b a++[⟨0,true,3,[(p.cells b a).map .d]⟩,⟨0,true,3,[[.d (iD 0),.d (.sc (.pointer none)),.d (.sc (.pointer none))]]⟩]∧nn (re.set.take i) (fX m.t p.at_)=false)
  ⟨_,_,_,dw.refl,0,rfl,by omega,rfl,rfl,rfl,rfl,rfl,rfl,rfl,?_,rfl⟩ ?_
 ·rfl
 rintro n e s ⟨i,rfl,hi,h0,h5,h6,h8,kB,ie,qK,rfl,jk⟩
 unfold bp.au;simp only[aB]
 rcases Xw i re.set.length with aS|lW
 ·obtain⟨y,hy⟩:∃y,re.set[i]?=some y:=⟨_,WZ aS⟩
  by_cases c1:y.1≤fX m.t p.at_
  ·by_cases c2:fX m.t p.at_≤y.2
   ·rw[MV hy c1 c2]
    simp only[zX,simprocAttr,i64,bV,iD,WR,WS,WU,WV,ai.v,ai.cells,di,dH,ai.zero,dK,aF.d,Re.ae re,h0,h5,h6,h8,kB,ie,qK,aS,hy,aT,c1,c2,w1]
    exact hM
   ·simp only[zX,simprocAttr,i64,bV,iD,WR,WS,WU,WV,ai.v,ai.cells,di,dH,ai.zero,dK,aF.d,Re.ae re,h0,h5,h6,h8,kB,ie,qK,aS,hy,aT,c1,c2]
    refine⟨re.set.length-(i+1),_,_,by omega,dw.cut (s':=m.au g b a++[⟨0,true,3,[(p.cells b a).map .d]⟩,⟨0,true,3,[[.d (iD 0),.d (.sc (.pointer none)),.d (.sc (.pointer none))]]⟩]) 5 (by omega) rfl ?_ [0,5,6,8,31,32,33] ?_,i+1,rfl,aS,?_,?_,?_,?_,?_,?_,?_,rfl,Gl hy jk (fun h=>c2 h.2)⟩ <;> (try simp only[zU,Nat.reduceBEq,Nat.reduceShiftRight,Nat.reduceMod,Nat.reduceEqDiff,reduceIte])
    ·rw[XI,la g b a m 5 (by omega)];rfl
    ·simp [bW,ba,ao,i64,h0,h5,h6,h8,kB,ie,qK]
    ·exact h0
    ·exact h5
    ·exact h6
    ·exact h8
    ·exact kB
    ·exact ie
    ·rw[bU _ (by omega)];rfl
  ·simp only[zX,simprocAttr,i64,bV,iD,WR,WS,WU,WV,ai.v,ai.cells,di,dH,ai.zero,dK,aF.d,Re.ae re,h0,h5,h6,h8,kB,ie,qK,aS,hy,aT,c1]
   refine⟨re.set.length-(i+1),_,_,by omega,dw.cut (s':=m.au g b a++[⟨0,true,3,[(p.cells b a).map .d]⟩,⟨0,true,3,[[.d (iD 0),.d (.sc (.pointer none)),.d (.sc (.pointer none))]]⟩]) 5 (by omega) rfl ?_ [0,5,6,8,31,32,33] ?_,i+1,rfl,aS,?_,?_,?_,?_,?_,?_,?_,rfl,Gl hy jk (fun h=>c1 h.1)⟩ <;> (try simp only[zU,Nat.reduceBEq,Nat.reduceShiftRight,Nat.reduceMod,Nat.reduceEqDiff,reduceIte])
   ·rw[XI,la g b a m 5 (by omega)];rfl
   ·simp [bW,ba,ao,i64,h0,h5,h6,h8,kB,ie,qK]
   ·exact h0
   ·exact h5
   ·exact h6
   ·exact h8
   ·exact kB
   ·exact ie
   ·rw[bU _ (by omega)];rfl
 ·have iQ:i=re.set.length:=by omega
  subst iQ
  rw[XA]at jk
  rw[jk]
  simp only[zX,simprocAttr,i64,bV,iD,WR,WS,WU,WV,ai.v,ai.cells,di,dH,ai.zero,dK,aF.d,Re.ae re,h0,h5,h6,h8,kB,ie,qK,XP,W2,if_false]
  exact hM
def zQ (kids:List Re) (next:aF):aF:=kids.foldr (fun k nx=>.tree k [] nx) next
theorem ET {kids:List Re}{j:Nat}{k:Re} (hk:kids[j]?=some k) (next:aF):zQ (kids.drop j) next=.tree k [] (zQ (kids.drop (j+1)) next):=by
 obtain⟨aS,he⟩:=List.getElem?_eq_some_iff.1 hk
 rw[XV aS,he]
 rfl
def dM:VL.Obj:=⟨0,true,3,[[.d (iD 0),.d (.sc (.pointer none)),.d (.sc (.pointer none))]]⟩
def gq (b a:Nat) (p:ai):VL.Obj:=⟨0,true,3,[[.d (iD p.at_),.d (dK p.ak),.d (p.todo.d b a)]]⟩
theorem Mg (g b a:Nat) (m:bp) (re:Re) (ext:List D) (p:ai) (cz:re.kids.length≤1000000000):av prog 59 [.pp 0 g 0 0 b a,.d (di re ext),p.v b a] (m.au g b a) fun v s=>v=dH b a { p with todo:=zQ re.kids p.todo } true∧s=m.au g b a:=by
 have hM:=b9 m b a 3
 have wl:IntKind.i64.wrap ((re.kids.length:Int)-1)=(re.kids.length:Int)-1:=bU _ (by omega)
 have hput:=fun kid next ext=>dX (iV g b a m kid [] next) rfl rfl rfl ext
 simp only[← wQ]at hput
 unfold bp.au
 refine aw func59 rfl ntmps59 results59 rfl 3 487 (by simp) (by simp) ?_
 simp only[zX,simprocAttr,i64,bV,iD,dH,ai.v,ai.cells,WU,WV,di,Re.ae re,WR,WS,wl,W1]
 refine aX (fun n e s=>∃j:Nat,n=j∧j≤re.kids.length∧e 0=.pp 0 g 0 0 b a∧e 1=.d (di re ext)∧e 5=.rf 3 0 0 0∧e 6=.rf 4 0 0 0∧e 8=i64 ((j:Int)-1)∧s=m.au g b a++[gq b a { p with todo:=zQ (re.kids.drop j) p.todo },dM])
  ⟨_,_,_,dw.refl,re.kids.length,rfl,W4 _,rfl,?_,rfl,rfl,rfl,?_⟩ ?_
 ·unfold di;rw[Re.ae re];rfl
 ·rw[List.drop_length];rfl
 rintro j e s ⟨_,rfl,hj,h0,h1,h5,h6,h8,rfl⟩
 unfold bp.au at *
 cases j with
 |zero =>
  have h8:e 8=i64 (-1):=h8
  simp only[zX,simprocAttr,i64,bV,iD,dH,gq,dM,ai.v,ai.cells,WU,WV,WR,WS,h0,h1,h5,h6,h8,ge_iff_le,X1]
  exact hM
 |succ j =>
  obtain⟨kid,hk⟩:∃k,re.kids[j]?=some k:=⟨_,WZ (by omega)⟩
  have e8:(((j+1:Nat):Int)-1)=(j:Int):=by omega
  rw[e8]at h8
  have l0:(0:Int)≤(j:Int):=by omega
  have l1:(j:Int)<(re.kids.length:Int):=by omega
  have l2:j<re.kids.length:=by omega
  simp only[zX,simprocAttr,i64,bV,iD,dH,gq,dM,ai.v,ai.cells,WU,WV,WR,WS,h0,h1,h5,h6,h8,ge_iff_le,l0]
  refine aq mix [9,11] [] (by rfl) ?_
  simp only[zX,simprocAttr,i64,bV,iD,dH,ai.v,ai.cells,WU,WV,WR,WS,di,Re.ae re,h0,h1,h5,h6,h8,l0,l1,l2,hk,W1,Xp]
  refine bu (hput kid _ _) ?_
  simp only[zX,simprocAttr,i64,bV,iD,dH,ai.v,ai.cells,WU,WV,WR,WS,h0,h1,h5,h6,h8]
  refine⟨j,_,_,Xo j,dw.refl,j,rfl,by omega,?_,?_,?_,?_,?_,by rw[ET hk]⟩ <;> (try simp only[zU,Nat.reduceBEq,Nat.reduceShiftRight,Nat.reduceMod,Nat.reduceEqDiff,reduceIte])
  ·exact h0
  ·rw[h1];unfold di;rw[Re.ae re];rfl
  ·exact h5
  ·exact h6
  ·rw[bU _ (by omega)]
end Go.Proofs.YtmihcpdhcillaaaGreat
