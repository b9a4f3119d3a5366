/- A part of the proof (S7 S8 S9). -/
import Derived.Test.YtpppfpaalcbggaaML37
import Derived.Test.YtpppfpaalcbggaaML38
set_option linter.unusedSimpArgs false
set_option linter.unusedVariables false
set_option maxRecDepth 100000
set_option maxHeartbeats 80000000
namespace Go.Proofs.Ytpppfpaalcbggaa
open Go.VL Go.Proofs.Try
structure SGood (m:Smt) (p:SPlace):Prop where
 s0:0≤m.steps
 s1:m.steps≤10000000000000
 top:m.top≤m.stk.length
 tmax:m.top≤1000000000000
 a0:0≤p.at_
 a1:p.at_≤m.t.length
 t:m.t.length≤1000000
inductive STask where
 | search (base:Nat)
 | inner (base:Nat) (p:SPlace) (alive:Bool)
 | call (p:SPlace)
 | op (re:Re) (ext:List D) (p:SPlace)
 | first (p:SPlace)
 | behind (re kid:Re) (p:SPlace) (j:Nat)
def lookS (re:Re) (p q:SPlace):SPlace:=if re.neg=true then p else { p with caps:=q.caps }
inductive SEv:Nat→STask→Smt→Smt→SPlace→Bool→Prop where
 | stop {n base:Nat} {m:Smt} (h:m.top≤base∨m.spent=true):SEv n (.search base) m m .zero false
 | pop {n k base:Nat} {m m':Smt} {q r:SPlace} {f:Bool} (hk:k < n) (hb:base < m.top) (ht:m.top≤m.stk.length) (hm:m.top≤1000000000000) (hs:m.spent=false) (hq:m.stk[m.top - 1]?=some q)
   (h:SEv k (.inner base q true) { m with top:=m.top - 1 } m' r f):SEv n (.search base) m m' r f
 | done {n base:Nat} {m:Smt} {p:SPlace} (h:p.todo=.nil):SEv n (.inner base p true) m m p true
 | dead {n k base:Nat} {m m':Smt} {p r:SPlace} {f:Bool} (hk:k < n) (h:SEv k (.search base) m m' r f):SEv n (.inner base p false) m m' r f
 | move {n k1 k2 base:Nat} {m m1 m':Smt} {p p1 r:SPlace} {a1 f:Bool} (hk1:k1 < n) (hk2:k2 < n) (hp:p.todo≠.nil) (h1:SEv k1 (.call p) m m1 p1 a1) (h2:SEv k2 (.inner base p1 a1) m1 m' r f):SEv n (.inner base p true) m m' r f
 | treeOut {n:Nat} {m:Smt} {x:Int} {c:Option CapsL} {re:Re} {ext:List D} {nx:SGoal} (hg:SGood m ⟨x,c,.tree re ext nx⟩) (ho:re.op≠4) (hf:m.fuel≤m.steps):SEv n (.call ⟨x,c,.tree re ext nx⟩) m m.step .zero false
 | tree {n k:Nat} {m m':Smt} {x:Int} {c:Option CapsL} {re:Re} {ext:List D} {nx:SGoal} {r:SPlace} {f:Bool} (hk:k < n) (hg:SGood m ⟨x,c,.tree re ext nx⟩) (ho:re.op≠4) (hf:m.steps < m.fuel)
   (h:SEv k (.op re ext ⟨x,c,nx⟩) m.step m' r f):SEv n (.call ⟨x,c,.tree re ext nx⟩) m m' r f
 | rep {n k:Nat} {m m':Smt} {x:Int} {c:Option CapsL} {re:Re} {ext:List D} {nx:SGoal} {r:SPlace} {f:Bool} (hk:k < n) (ho:re.op=4) (h:SEv k (.op re ext ⟨x,c,nx⟩) m m' r f):SEv n (.call ⟨x,c,.tree re ext nx⟩) m m' r f
 | roundOut {n:Nat} {m:Smt} {x:Int} {c:Option CapsL} {re:Re} {ext:List D} {k:Int} {nx:SGoal} (hg:SGood m ⟨x,c,.round re ext k nx⟩) (hf:m.fuel≤m.steps):SEv n (.call ⟨x,c,.round re ext k nx⟩) m m.step .zero false
 | roundMin {n:Nat} {m:Smt} {x:Int} {c:Option CapsL} {re kid:Re} {l:List Re} {ext:List D} {k:Int} {nx:SGoal} (hg:SGood m ⟨x,c,.round re ext k nx⟩) (hk:re.kids=kid::l) (h0:0≤k) (h1:k≤10000000000000) (hf:m.steps < m.fuel) (hm:k < re.mn) :
   SEv n (.call ⟨x,c,.round re ext k nx⟩) m m.step ⟨x,c,.tree kid [] (.round re ext (k + 1) nx)⟩ true
 | roundMax {n:Nat} {m:Smt} {x:Int} {c:Option CapsL} {re kid:Re} {l:List Re} {ext:List D} {k:Int} {nx:SGoal} (hg:SGood m ⟨x,c,.round re ext k nx⟩) (hk:re.kids=kid::l) (hf:m.steps < m.fuel) (hm:¬k < re.mn) (hx:0≤re.mx) (hx2:re.mx≤k) :
   SEv n (.call ⟨x,c,.round re ext k nx⟩) m m.step ⟨x,c,nx⟩ true
 | roundLazy {n:Nat} {m:Smt} {x:Int} {c:Option CapsL} {re kid:Re} {l:List Re} {ext:List D} {k:Int} {nx:SGoal} (hg:SGood m ⟨x,c,.round re ext k nx⟩) (hk:re.kids=kid::l) (h0:0≤k) (h1:k≤10000000000000) (hf:m.steps < m.fuel) (hm:¬k < re.mn) (hx:¬(0≤re.mx∧re.mx≤k)) (ho:re.mode=1) :
   SEv n (.call ⟨x,c,.round re ext k nx⟩) m (m.step.push ⟨x,c,.tree kid [] (.moved x re ext (k + 1) nx)⟩) ⟨x,c,nx⟩ true
 | roundMore {n:Nat} {m:Smt} {x:Int} {c:Option CapsL} {re kid:Re} {l:List Re} {ext:List D} {k:Int} {nx:SGoal} (hg:SGood m ⟨x,c,.round re ext k nx⟩) (hk:re.kids=kid::l) (h0:0≤k) (h1:k≤10000000000000) (hf:m.steps < m.fuel) (hm:¬k < re.mn) (hx:¬(0≤re.mx∧re.mx≤k)) (ho:re.mode≠1) :
   SEv n (.call ⟨x,c,.round re ext k nx⟩) m (m.step.push ⟨x,c,nx⟩) ⟨x,c,.tree kid [] (.moved x re ext (k + 1) nx)⟩ true
 | stay {n:Nat} {m:Smt} {x:Int} {c:Option CapsL} {re:Re} {ext:List D} {k:Int} {nx:SGoal}:SEv n (.call ⟨x,c,.moved x re ext k nx⟩) m m .zero false
 | moved {n j:Nat} {m m':Smt} {x y:Int} {c:Option CapsL} {re:Re} {ext:List D} {k:Int} {nx:SGoal} {r:SPlace} {f:Bool} (hj:j < n) (hy:x≠y) (h:SEv j (.call ⟨x,c,.round re ext k nx⟩) m m' r f):SEv n (.call ⟨x,c,.moved y re ext k nx⟩) m m' r f
 | fin {n:Nat} {m:Smt} {x y:Int} {c:CapsL} {re:Re} {ext:List D} {nx:SGoal} (hl:c.length=9) (h0:1≤re.n) (h1:re.n≤9):SEv n (.call ⟨x,some c,.fin y re ext nx⟩) m m ⟨x,some (c.set (re.n - 1).toNat (y,x)),nx⟩ true
 | here {n:Nat} {m:Smt} {x y:Int} {c:Option CapsL} {c':Option CapsL} {t':SGoal} {nx:SGoal}:SEv n (.call ⟨x,c,.here y c' t' nx⟩) m m ⟨x,c,nx⟩ (decide (x=y))
 | empty {n:Nat} {m:Smt} {re:Re} {ext:List D} {p:SPlace} (ho:re.op=0):SEv n (.op re ext p) m m p true
 | setIn {n:Nat} {m:Smt} {re:Re} {ext:List D} {p:SPlace} (ho:re.op=1) (hg:SGood m p) (hs:re.set.length≤1000000000) (h:p.at_ < m.t.length) (hi:inB re.set (tAt m.t p.at_)=true):SEv n (.op re ext p) m m { p with at_:=p.at_ + 1 } true
 | setNo {n:Nat} {m:Smt} {re:Re} {ext:List D} {p:SPlace} (ho:re.op=1) (hg:SGood m p) (hs:re.set.length≤1000000000) (h:p.at_ < m.t.length) (hi:inB re.set (tAt m.t p.at_)=false):SEv n (.op re ext p) m m .zero false
 | setOut {n:Nat} {m:Smt} {re:Re} {ext:List D} {p:SPlace} (ho:re.op=1) (h:¬p.at_ < m.t.length):SEv n (.op re ext p) m m .zero false
 | cat {n:Nat} {m:Smt} {re:Re} {ext:List D} {p:SPlace} (ho:re.op=2) (hk:re.kids.length≤1000000000):SEv n (.op re ext p) m m { p with todo:=pushS re.kids p.todo } true
 | alt {n:Nat} {m:Smt} {re kid:Re} {l:List Re} {ext:List D} {p:SPlace} (ho:re.op=3) (hk:re.kids=kid::l) (hkk:re.kids.length≤1000000000) (hg:SGood m p):SEv n (.op re ext p) m (altP l p m) { p with todo:=.tree kid [] p.todo } true
 | repP {n k:Nat} {m m':Smt} {re:Re} {ext:List D} {p q:SPlace} {f:Bool} (hk:k < n) (ho:re.op=4) (hm:re.mode=2) (h:SEv k (.first { p with todo:=.round re ext 0 .nil }) m m' q f):SEv n (.op re ext p) m m' { q with todo:=p.todo } f
 | repN {n:Nat} {m:Smt} {re:Re} {ext:List D} {p:SPlace} (ho:re.op=4) (hm:re.mode≠2):SEv n (.op re ext p) m m { p with todo:=.round re ext 0 p.todo } true
 | capture {n:Nat} {m:Smt} {re kid:Re} {l:List Re} {ext:List D} {p:SPlace} (ho:re.op=5) (hk:re.kids=kid::l):SEv n (.op re ext p) m m { p with todo:=.tree kid [] (.fin p.at_ re ext p.todo) } true
 | refNo {n:Nat} {m:Smt} {re:Re} {ext:List D} {p:SPlace} {c:CapsL} {x:Int × Int} (ho:re.op=6) (hg:SGood m p) (hc:p.caps=some c) (hl:c.length=9) (hn:1≤re.n) (hx:c[(re.n - 1).toNat]?=some x) (hb:-1000000≤x.1∧-1000000≤x.2∧x.1≤1000000∧x.2≤1000000)
   (hq:x.1 < 0∨(m.t.length:Int) - p.at_ < x.2 - x.1):SEv n (.op re ext p) m m .zero false
 | refYes {n:Nat} {m:Smt} {re:Re} {ext:List D} {p:SPlace} {c:CapsL} {x1 x2:Nat} (ho:re.op=6) (hg:SGood m p) (hc:p.caps=some c) (hl:c.length=9) (hn:1≤re.n) (hx:c[(re.n - 1).toNat]?=some ((x1:Int),(x2:Int))) (h12:x1≤x2) (h2:x2≤m.t.length) (hq:p.at_ + (x2 - x1:Nat)≤m.t.length) :
   SEv n (.op re ext p) m m (if sameR m.t x1 p.at_ (x2 - x1)=true then { p with at_:=p.at_ + (x2 - x1:Nat) } else .zero) (sameR m.t x1 p.at_ (x2 - x1))
 | ahead {n k:Nat} {m m':Smt} {re kid:Re} {l:List Re} {ext:List D} {p q:SPlace} {f:Bool} (hk:k < n) (ho:re.op=7) (hkk:re.kids=kid::l) (h:SEv k (.first { p with todo:=.tree kid [] .nil }) m m' q f):SEv n (.op re ext p) m m' (lookS re p q) (if re.neg=true then !f else f)
 | behind {n k:Nat} {m m':Smt} {re kid:Re} {l:List Re} {ext:List D} {p r:SPlace} {f:Bool} (hk:k < n) (ho:re.op=8) (hkk:re.kids=kid::l) (hp:0≤p.at_) (hp1:p.at_≤1000000) (h:SEv k (.behind re kid p (p.at_.toNat + 1)) m m' r f):SEv n (.op re ext p) m m' r f
 | atom {n k:Nat} {m m':Smt} {re kid:Re} {l:List Re} {ext:List D} {p q:SPlace} {f:Bool} (hk:k < n) (ho:re.op=9) (hkk:re.kids=kid::l) (h:SEv k (.first { p with todo:=.tree kid [] .nil }) m m' q f):SEv n (.op re ext p) m m' { q with todo:=p.todo } f
 | cond {n:Nat} {m:Smt} {re yes no:Re} {l:List Re} {ext:List D} {p:SPlace} {c:CapsL} {x:Int × Int} (ho:re.op=10) (hkk:re.kids=yes::no::l) (hc:p.caps=some c) (hl:c.length=9) (hn:1≤re.n) (hx:c[(re.n - 1).toNat]?=some x) :
   SEv n (.op re ext p) m m { p with todo:=.tree (if 0≤x.1 then yes else no) [] p.todo } true
 | assert {n:Nat} {m:Smt} {re:Re} {ext:List D} {p:SPlace} (ho:re.op=11) (hg:SGood m p) (h0:0≤re.n) (h1:re.n≤5):SEv n (.op re ext p) m m p (holdsR re.n m.t p.at_)
 | first {n k:Nat} {m m':Smt} {p r:SPlace} {f:Bool} (hk:k < n) (ht:m.top≤m.stk.length) (hm:m.top≤1000000000000) (h:SEv k (.search m.top) (m.push p) m' r f) (h1:m.top≤m'.top) (h2:m'.top≤m'.stk.length):SEv n (.first p) m { m' with top:=m.top } r f
 | behindNo {n j:Nat} {m:Smt} {re kid:Re} {p:SPlace} (h:j=0∨m.spent=true):SEv n (.behind re kid p j) m m (lookS re p .zero) (if re.neg=true then true else false)
 | behindYes {n k j:Nat} {m m':Smt} {re kid:Re} {p q:SPlace} (hk:k < n) (hs:m.spent=false) (h:SEv k (.first ⟨j,p.caps,.tree kid [] (.here p.at_ p.caps p.todo .nil)⟩) m m' q true):SEv n (.behind re kid p (j + 1)) m m' (lookS re p q) (if re.neg=true then false else true)
 | behindMore {n k1 k2 j:Nat} {m m1 m':Smt} {re kid:Re} {p q r:SPlace} {f:Bool} (hk1:k1 < n) (hk2:k2 < n) (hs:m.spent=false) (h:SEv k1 (.first ⟨j,p.caps,.tree kid [] (.here p.at_ p.caps p.todo .nil)⟩) m m1 q false) (h2:SEv k2 (.behind re kid p j) m1 m' r f) :
   SEv n (.behind re kid p (j + 1)) m m' r f
theorem assert_okS (g b a:Nat) (m:Smt) (re:Re) (ext:List D) (p:SPlace) (hg:SGood m p) (h0:0≤re.n) (h1:re.n≤5):callWp prog 83 [.pp 0 g 0 0 b a,.d (reP re ext),p.v b a] (m.objs g b a) fun v s=>v=srV b a p (holdsR re.n m.t p.at_)∧s=m.objs g b a:=by
 have hM:=sobj_ok m b a 3
 have hA:=assert_ok re.n m.t p.at_ h0 h1 hg.t hg.a0 hg.a1
 unfold Smt.objs
 simp only[intsD,i64,bV,iD] at *
 refine fn_ok func83 rfl ntmps83 results83 rfl 3 231 (by simp) (by simp) ?_
 simp only[zX,Nat.reduceShiftRight,Nat.reduceMod,Nat.reduceLT,Nat.reduceMul,Nat.reduceSub,Int.reduceToNat,Int.reduceNeg,Int.reduceLT,Int.reduceLE,Int.reduceEq,Nat.reduceEqDiff,Nat.reduceAdd,Nat.reduceLeDiff,reduceIte,reduceCtorEq,Nat.reduceBEq,i64,bV,iD,srV,SPlace.v,SPlace.cells,List.map_cons,List.map_nil,intsD]
 refine draw_c mix [] [(0,[3],[]),(3,[],[]),(4,[],[]),(7,[0],[]),(8,[0],[]),(9,[3],[]),(10,[3],[]),(12,[4],[4])] (by rfl) ?_
 simp only[zX,Nat.reduceShiftRight,Nat.reduceMod,Nat.reduceLT,Nat.reduceMul,Nat.reduceSub,Int.reduceToNat,Int.reduceNeg,Int.reduceLT,Int.reduceLE,Int.reduceEq,Nat.reduceEqDiff,Nat.reduceAdd,Nat.reduceLeDiff,reduceIte,reduceCtorEq,Nat.reduceBEq,i64,bV,iD,List.map_cons,List.map_nil,reP,Re.cells_eq re,List.cons_append,List.nil_append]
 refine callC_pure hA rfl rfl ?_
 simp only[zX,Nat.reduceShiftRight,Nat.reduceMod,Nat.reduceLT,Nat.reduceMul,Nat.reduceSub,Int.reduceToNat,Int.reduceNeg,Int.reduceLT,Int.reduceLE,Int.reduceEq,Nat.reduceEqDiff,Nat.reduceAdd,Nat.reduceLeDiff,reduceIte,reduceCtorEq,Nat.reduceBEq,i64,bV,iD,srV,SPlace.v,SPlace.cells,List.map_cons,List.map_nil,intsD]
 exact hM
theorem ref_noS (g b a:Nat) (m:Smt) (re:Re) (ext:List D) (p:SPlace) {c:CapsL} {x:Int × Int} (hg:SGood m p) (hc:p.caps=some c) (hl:c.length=9) (hn:1≤re.n) (hx:c[(re.n - 1).toNat]?=some x) (hb:-1000000≤x.1∧-1000000≤x.2∧x.1≤1000000∧x.2≤1000000)
  (hq:x.1 < 0∨(m.t.length:Int) - p.at_ < x.2 - x.1):callWp prog 78 [.pp 0 g 0 0 b a,.d (reP re ext),p.v b a] (m.objs g b a) fun v s=>v=srV b a .zero false∧s=m.objs g b a:=by
 obtain⟨x1,x2⟩:=x
 simp only at hb hq
 have hlt:(re.n - 1).toNat < 9:=by rw[← hl]; exact(List.getElem?_eq_some_iff.1 hx).1
 have wn:IntKind.i64.wrap (re.n - 1)=re.n - 1:=w64 _ (by omega)
 have w1:IntKind.i64.wrap (x2 - x1)=x2 - x1:=w64 _ (by omega)
 have w2:IntKind.i64.wrap ((m.t.length:Int) - p.at_)=m.t.length - p.at_:=w64 _ (by have:=hg.t; have:=hg.a0; have:=hg.a1; omega)
 have n0:(0:Int)≤re.n - 1:=by omega
 have n9:re.n - 1 < ((9:Nat):Int):=by omega
 have hM:=sobj_ok m b a 3
 obtain⟨tl,hd⟩:=flat_at hx
 rw[Nat.mul_comm] at hd
 obtain⟨C,hC⟩:∃C,c.flatMap (fun p=>[iD p.1,iD p.2])=C:=⟨_,rfl⟩
 have hc9:capsO p.caps=.el C:=by rw[hc,← hC]; rfl
 rw[hC] at hd
 simp only[iD] at hd
 unfold Smt.objs
 refine fn_ok func78 rfl ntmps78 results78 rfl 3 999 (by simp) (by simp) ?_
 simp only[zX,Nat.reduceShiftRight,Nat.reduceMod,Nat.reduceLT,Nat.reduceMul,Nat.reduceSub,Int.reduceToNat,Int.reduceNeg,Int.reduceLT,Int.reduceLE,Int.reduceEq,Nat.reduceEqDiff,Nat.reduceAdd,Nat.reduceLeDiff,reduceIte,reduceCtorEq,Nat.reduceBEq,i64,bV,iD,srV,SPlace.v,SPlace.cells,List.map_cons,List.map_nil,intsD]
 refine draw_first Cln0.reserve ?_
 refine draw_c mix [] [(0,[3],[]),(1,[3],[]),(10,[5],[5]),(11,[5],[5])] (by rfl) ?_
 simp only[zX,Nat.reduceShiftRight,Nat.reduceMod,Nat.reduceLT,Nat.reduceMul,Nat.reduceSub,Int.reduceToNat,Int.reduceNeg,Int.reduceLT,Int.reduceLE,Int.reduceEq,Nat.reduceEqDiff,Nat.reduceAdd,Nat.reduceLeDiff,reduceIte,reduceCtorEq,Nat.reduceBEq,i64,bV,iD,hole,hc9,reP,Re.cells_eq re,List.cons_append,List.nil_append,wn,n0,n9,hd,List.map_cons,List.map_nil,w1]
 refine⟨by decide,by decide,?_⟩
 by_cases q1:x1 < 0
 ·refine draw_c mix [] [(0,[5],[]),(1,[5],[]),(6,[0],[]),(7,[0],[]),(8,[0],[]),(9,[2],[]),(10,[3],[]),(11,[3],[])] (by rfl) ?_
  simp only[zX,Nat.reduceShiftRight,Nat.reduceMod,Nat.reduceLT,Nat.reduceMul,Nat.reduceSub,Int.reduceToNat,Int.reduceNeg,Int.reduceLT,Int.reduceLE,Int.reduceEq,Nat.reduceEqDiff,Nat.reduceAdd,Nat.reduceLeDiff,reduceIte,reduceCtorEq,Nat.reduceBEq,i64,bV,iD,w1,w2,q1,gt_iff_lt,srV,SPlace.v,SPlace.cells,SPlace.zero,capsO,SGoal.d,List.map_cons,List.map_nil]
  exact⟨by decide,hM⟩
 ·have q2:(m.t.length:Int) - p.at_ < x2 - x1:=by omega
  refine draw_c mix [] [(0,[5],[]),(1,[5],[]),(6,[0],[]),(7,[0],[]),(8,[0],[]),(9,[2],[]),(10,[3],[]),(11,[3],[])] (by rfl) ?_
  simp only[zX,Nat.reduceShiftRight,Nat.reduceMod,Nat.reduceLT,Nat.reduceMul,Nat.reduceSub,Int.reduceToNat,Int.reduceNeg,Int.reduceLT,Int.reduceLE,Int.reduceEq,Nat.reduceEqDiff,Nat.reduceAdd,Nat.reduceLeDiff,reduceIte,reduceCtorEq,Nat.reduceBEq,i64,bV,iD,w1,w2,q1,q2,gt_iff_lt,List.length_map,srV,SPlace.v,SPlace.cells,SPlace.zero,capsO,SGoal.d,List.map_cons,List.map_nil]
  exact⟨by decide,hM⟩
theorem ref_yesS (g b a:Nat) (m:Smt) (re:Re) (ext:List D) (p:SPlace) {c:CapsL} {x1 x2:Nat} (hg:SGood m p) (hc:p.caps=some c) (hl:c.length=9) (hn:1≤re.n) (hx:c[(re.n - 1).toNat]?=some ((x1:Int),(x2:Int))) (h12:x1≤x2) (h2:x2≤m.t.length) (hq:p.at_ + (x2 - x1:Nat)≤m.t.length) :
  callWp prog 78 [.pp 0 g 0 0 b a,.d (reP re ext),p.v b a] (m.objs g b a) fun v s=>v=srV b a (if sameR m.t x1 p.at_ (x2 - x1)=true then { p with at_:=p.at_ + (x2 - x1:Nat) } else .zero) (sameR m.t x1 p.at_ (x2 - x1))∧s=m.objs g b a:=by
 have ht:=hg.t
 have ha0:=hg.a0
 have ha1:=hg.a1
 have hlt:(re.n - 1).toNat < 9:=by rw[← hl]; exact(List.getElem?_eq_some_iff.1 hx).1
 obtain⟨i,hi⟩:∃i:Nat,p.at_=i:=⟨p.at_.toNat,by omega⟩
 rw[hi] at hq ⊢
 have ed:((x2 - x1:Nat):Int)=(x2:Int) - x1:=by omega
 rw[ed] at hq ⊢
 have wn:IntKind.i64.wrap (re.n - 1)=re.n - 1:=w64 _ (by omega)
 have w1:IntKind.i64.wrap ((x2:Int) - x1)=x2 - x1:=w64 _ (by omega)
 have w2:IntKind.i64.wrap ((m.t.length:Int) - i)=m.t.length - i:=w64 _ (by omega)
 have w3:IntKind.i64.wrap ((i:Int) + ((x2:Int) - x1))=i + ((x2:Int) - x1):=w64 _ (by omega)
 have n0:(0:Int)≤re.n - 1:=by omega
 have n9:re.n - 1 < ((9:Nat):Int):=by omega
 have q1:¬(x1:Int) < 0:=by omega
 have q2:¬(m.t.length:Int) - i < (x2:Int) - x1:=by omega
 have l1:(0:Int)≤(x1:Int):=by omega
 have l2:(x1:Int)≤(x2:Int):=by omega
 have l3:(x2:Int)≤(m.t.length:Int):=by omega
 have l4:(0:Int)≤(i:Int):=by omega
 have l5:(i:Int)≤(i:Int) + ((x2:Int) - x1):=by omega
 have l6:(i:Int) + ((x2:Int) - x1)≤(m.t.length:Int):=by omega
 have e1:((x2:Int) - x1).toNat=x2 - x1:=by omega
 have e2:((i:Int) + ((x2:Int) - x1) - i).toNat=x2 - x1:=by omega
 have hM:=sobj_ok m b a 3
 have hsm:=same_take (t:=m.t) (a:=x1) (i:=i) (n:=x2 - x1) (by omega) (by omega)
 have hE:=slEqual_ok ((m.t.drop x1).take (x2 - x1)) ((m.t.drop i).take (x2 - x1)) (by simp; omega)
 rw[hsm] at hE
 obtain⟨tl,hd⟩:=flat_at hx
 rw[Nat.mul_comm] at hd
 obtain⟨C,hC⟩:∃C,c.flatMap (fun p=>[iD p.1,iD p.2])=C:=⟨_,rfl⟩
 have hc9:capsO p.caps=.el C:=by rw[hc,← hC]; rfl
 rw[hC] at hd
 simp only[iD] at hd
 unfold Smt.objs; simp only[intsD]
 refine fn_ok func78 rfl ntmps78 results78 rfl 3 999 (by simp) (by simp) ?_
 simp only[zX,Nat.reduceShiftRight,Nat.reduceMod,Nat.reduceLT,Nat.reduceMul,Nat.reduceSub,Int.reduceToNat,Int.reduceNeg,Int.reduceLT,Int.reduceLE,Int.reduceEq,Nat.reduceEqDiff,Nat.reduceAdd,Nat.reduceLeDiff,reduceIte,reduceCtorEq,Nat.reduceBEq,i64,bV,iD,srV,SPlace.v,SPlace.cells,List.map_cons,List.map_nil,hi]
 refine draw_first Cln0.reserve ?_
 refine draw_c mix [] [(0,[3],[]),(1,[3],[]),(10,[5],[5]),(11,[5],[5])] (by rfl) ?_
 simp only[zX,Nat.reduceShiftRight,Nat.reduceMod,Nat.reduceLT,Nat.reduceMul,Nat.reduceSub,Int.reduceToNat,Int.reduceNeg,Int.reduceLT,Int.reduceLE,Int.reduceEq,Nat.reduceEqDiff,Nat.reduceAdd,Nat.reduceLeDiff,reduceIte,reduceCtorEq,Nat.reduceBEq,i64,bV,iD,hole,hc9,reP,Re.cells_eq re,List.cons_append,List.nil_append,wn,n0,n9,hd,List.map_cons,List.map_nil,w1,hi]
 refine⟨by decide,by decide,?_⟩
 refine draw_c mix [] [(0,[5],[]),(1,[5],[]),(6,[0],[]),(7,[0],[]),(8,[0],[]),(9,[2],[]),(10,[3],[]),(11,[3],[])] (by rfl) ?_
 simp only[zX,Nat.reduceShiftRight,Nat.reduceMod,Nat.reduceLT,Nat.reduceMul,Nat.reduceSub,Int.reduceToNat,Int.reduceNeg,Int.reduceLT,Int.reduceLE,Int.reduceEq,Nat.reduceEqDiff,Nat.reduceAdd,Nat.reduceLeDiff,reduceIte,reduceCtorEq,Nat.reduceBEq,i64,bV,iD,w1,w2,q1,q2,gt_iff_lt,List.length_map,hi]
 refine⟨by decide,?_⟩
 refine draw_c mix [20] [(1,[0],[]),(2,[0],[]),(3,[0],[]),(4,[5],[]),(5,[5],[]),(6,[5],[]),(7,[5],[]),(8,[2],[]),(10,[0],[]),(11,[0],[]),(12,[0],[]),(13,[3],[]),(14,[3],[]),(15,[3],[]),(16,[3],[]),(19,[2],[])] (by rfl) ?_
 have h1l:∀e∈m.t.map (fun x=>[D.sc (Value.int IntKind.i64 x)]),e.length=1:=by
  intro e he; obtain⟨y,_,rfl⟩:=List.mem_map.1 he; rfl
 simp only[intsD,List.map_take,List.map_drop,bV,iD] at hE
 simp only[zX,Nat.reduceShiftRight,Nat.reduceMod,Nat.reduceLT,Nat.reduceMul,Nat.reduceSub,Int.reduceToNat,Int.reduceNeg,Int.reduceLT,Int.reduceLE,Int.reduceEq,Nat.reduceEqDiff,Nat.reduceAdd,Nat.reduceLeDiff,reduceIte,reduceCtorEq,Nat.reduceBEq,i64,bV,iD,hi,w1,w3,l1,l2,l3,l4,l5,l6,List.length_map,e1,e2,Int.toNat_natCast]
 refine⟨by decide,by decide,.inr h1l,.inr h1l,callD_of (call_pure hE rfl rfl ⟨rfl,rfl⟩) ?_⟩
 cases hsr:sameR m.t x1 i (x2 - x1) with
 | true =>
  simp only[zX,Nat.reduceShiftRight,Nat.reduceMod,Nat.reduceLT,Nat.reduceMul,Nat.reduceSub,Int.reduceToNat,Int.reduceNeg,Int.reduceLT,Int.reduceLE,Int.reduceEq,Nat.reduceEqDiff,Nat.reduceAdd,Nat.reduceLeDiff,reduceIte,reduceCtorEq,Nat.reduceBEq,i64,bV,iD,hi,w1,w3,hsr,Bool.not_true,Bool.not_false,srV,SPlace.v,SPlace.cells,List.map_cons,List.map_nil,hc9]
  exact hM
 | false =>
  simp only[zX,Nat.reduceShiftRight,Nat.reduceMod,Nat.reduceLT,Nat.reduceMul,Nat.reduceSub,Int.reduceToNat,Int.reduceNeg,Int.reduceLT,Int.reduceLE,Int.reduceEq,Nat.reduceEqDiff,Nat.reduceAdd,Nat.reduceLeDiff,reduceIte,reduceCtorEq,Nat.reduceBEq,i64,bV,iD,hi,w1,w3,hsr,Bool.not_true,Bool.not_false,Bool.false_eq_true,srV,SPlace.v,SPlace.cells,SPlace.zero,capsO,SGoal.d,List.map_cons,List.map_nil]
  exact hM
def SGoal.fn:SGoal→FuncId
 | .nil=>0
 | .tree _ _ _=>84
 | .round _ _ _ _=>106
 | .moved _ _ _ _ _=>107
 | .fin _ _ _ _=>95
 | .here _ _ _ _=>98
def SGoal.bound (b a:Nat):SGoal→List D
 | .nil=>[]
 | .tree re ext _=>[.el [reP re ext],.el [mP b a]]
 | .round re ext k _=>[.el [mP b a],.el [reP re ext],.el [iD k]]
 | .moved x re ext k _=>[.el [iD x],.el [roundC b a re ext k]]
 | .fin x re ext _=>[.el [iD x],.el [reP re ext]]
 | .here x c t _=>[.el [iD x,capsO c,t.d b a]]
def SGoal.next:SGoal→SGoal
 | .nil=>.nil
 | .tree _ _ nx=>nx
 | .round _ _ _ nx=>nx
 | .moved _ _ _ _ nx=>nx
 | .fin _ _ _ nx=>nx
 | .here _ _ _ nx=>nx
theorem SGoal.d_eq (b a:Nat) {h:SGoal} (hn:h≠.nil):h.d b a=.el [.cl (.func h.fn) [] (h.bound b a),h.next.d b a]:=by
 cases h <;> first | rfl | exact absurd rfl hn
def opFn (o:Int):FuncId :=
 if o=1 then 73 else if o=2 then 74 else if o=3 then 75 else if o=4 then 76
 else if o=5 then 77 else if o=6 then 78 else if o=7 then 79 else if o=8 then 80
 else if o=9 then 81 else if o=10 then 82 else if o=11 then 83 else 72
def SRun (f:FuncId) (args:List V) (g b a:Nat) (m m':Smt) (r:SPlace) (fd:Bool):Prop:=callWp prog f args (m.objs g b a) fun v s=>v=srV b a r fd∧s=m'.objs g b a
def STask.wp (g b a:Nat) (m m':Smt) (r:SPlace) (f:Bool):STask→Prop
 | .search base=>SRun 64 [.pp 0 g 0 0 b a,i64 (base:Nat)] g b a m m' r f
 | .inner _ _ _=>True
 | .call p=>SRun p.todo.fn (i64 p.at_::.d (capsO p.caps)::.d (p.todo.next.d b a)::liftV.go (.pp 0 g 0 0 b a) (p.todo.bound b a)) g b a m m' r f
 | .op re ext p=>SRun (opFn re.op) [.pp 0 g 0 0 b a,.d (reP re ext),p.v b a] g b a m m' r f
 | .first p=>SRun 92 [.pp 0 g 0 0 b a,p.v b a] g b a m m' r f
 | .behind _ _ _ _=>True
theorem srV_ren (b a:Nat) (l:List Nat) (r:SPlace) (f:Bool):renV l (srV b a r f)=srV b a r f:=rfl
theorem SRun.ext {f:FuncId} {g b a:Nat} {cargs:List V} {m m':Smt} {r:SPlace} {fd:Bool} (h:SRun f cargs g b a m m' r fd) (ha:cargs.map (renV [0,1,2])=cargs) (hra:refsV.go 3 cargs=true) (ext:List VL.Obj) :
  callWp prog f cargs (m.objs g b a++ext) fun v s=>v=srV b a r fd∧s=m'.objs g b a++ext:=call_sm h ha hra (srV_ren _ _ _ _ _) ext
theorem first_okS (g b a:Nat) {m m':Smt} {p r:SPlace} {f:Bool} (ht:m.top≤m.stk.length) (hm:m.top≤1000000000000) (h:STask.wp g b a (m.push p) m' r f (.search m.top)) (h1:m.top≤m'.top) (h2:m'.top≤m'.stk.length):STask.wp g b a m { m' with top:=m.top } r f (.first p):=by
 have hs:=fun ext=>SRun.ext h rfl rfl ext
 have hM:=sobj_ok m' b a 3
 have hmin:min m.top m.stk.length=m.top:=by omega
 unfold STask.wp SRun
 unfold Smt.objs Smt.push at *
 simp only[i64,bV,iD,List.map_append,List.map_take,List.map_cons,List.map_nil,SPlace.cells] at hs
 refine fn_ok func92 rfl ntmps92 results92 rfl 3 507 (by simp) (by simp) ?_
 simp only[zX,Nat.reduceShiftRight,Nat.reduceMod,Nat.reduceLT,Nat.reduceMul,Nat.reduceSub,Int.reduceToNat,Int.reduceNeg,Int.reduceLT,Int.reduceLE,Int.reduceEq,Nat.reduceEqDiff,Nat.reduceAdd,Nat.reduceLeDiff,reduceIte,reduceCtorEq,Nat.reduceBEq,i64,bV,iD,srV,SPlace.v,SPlace.cells,List.map_cons,List.map_nil]
 refine draw_c mix [] [(2,[0],[]),(3,[0],[]),(4,[0],[]),(5,[3],[]),(7,[2],[2]),(8,[0],[]),(9,[0],[]),(10,[0],[0])] (by rfl) ?_
 simp only[zX,Nat.reduceShiftRight,Nat.reduceMod,Nat.reduceLT,Nat.reduceMul,Nat.reduceSub,Int.reduceToNat,Int.reduceNeg,Int.reduceLT,Int.reduceLE,Int.reduceEq,Nat.reduceEqDiff,Nat.reduceAdd,Nat.reduceLeDiff,reduceIte,reduceCtorEq,Nat.reduceBEq,i64,bV,iD,srV,SPlace.v,SPlace.cells,List.map_cons,List.map_nil,List.cons_append,List.nil_append,ht,hmin,List.length_map]
 refine⟨rfl,by simp,⟨by omega,by omega⟩,?_⟩
 refine callWp_mono (hs _) (fun v s' hv=>?_); obtain⟨rfl,rfl⟩:=hv
 simp only[zX,Nat.reduceShiftRight,Nat.reduceMod,Nat.reduceLT,Nat.reduceMul,Nat.reduceSub,Int.reduceToNat,Int.reduceNeg,Int.reduceLT,Int.reduceLE,Int.reduceEq,Nat.reduceEqDiff,Nat.reduceAdd,Nat.reduceLeDiff,reduceIte,reduceCtorEq,Nat.reduceBEq,i64,bV,iD,srV,SPlace.v,SPlace.cells,List.map_cons,List.map_nil,List.cons_append,List.nil_append,h2,Nat.zero_add,List.length_map,List.length_take]
 refine⟨by omega,hM,?_⟩
 simp
theorem split3 {g b a:Nat} {m:Smt} {ext s':List VL.Obj} (hl:s'.length=(m.objs g b a++ext).length) (hr:∀id∈[0,1,2],s'[id]?=(m.objs g b a++ext)[id]?):s'=m.objs g b a++s'.drop 3:=by
 have h0:=hr 0 (by simp); have h1:=hr 1 (by simp); have h2:=hr 2 (by simp)
 match s',hl,h0,h1,h2 with
 | [],hl,_,_,_=>simp [Smt.objs] at hl
 | [_],hl,_,_,_=>simp [Smt.objs] at hl
 | [_,_],hl,_,_,_=>simp [Smt.objs] at hl
 | x::y::z::l,_,h0,h1,h2 =>
  unfold Smt.objs at *
  simp at h0 h1 h2
  subst h0 h1 h2
  rfl
theorem SRun.callF {f:FuncId} {g b a:Nat} {cargs:List V} {m m':Smt} {r:SPlace} {fd:Bool} {ext:List VL.Obj} {K:V→List VL.Obj→Prop} (h:SRun f cargs g b a m m' r fd) (ha:cargs.map (renV [0,1,2])=cargs) (hra:refsV.go 3 cargs=true)
  (hk:K (srV b a r fd) (m'.objs g b a++ext)):callF prog [0,1,2] [0,1,2] f cargs (m.objs g b a++ext) K:=by
 refine⟨srV b a r fd,m'.objs g b a,rfl,fun s' hl hr=>?_,?_⟩
 ·have e:=split3 hl hr
  have hp:=h.ext ha hra (s'.drop 3)
  rw[← e] at hp
  refine callWp_mono hp fun v s'' hv=>⟨hv.1,?_⟩
  rw[hv.2,e]
  rfl
 ·exact hk
theorem ahead_okS (g b a:Nat) {m m':Smt} {re kid:Re} {l:List Re} (ext:List D) {p q:SPlace} {f:Bool} (hk:re.kids=kid::l) (h:STask.wp g b a m m' q f (.first { p with todo:=.tree kid [] .nil })) :
  SRun 79 [.pp 0 g 0 0 b a,.d (reP re ext),p.v b a] g b a m m' (lookS re p q) (if re.neg=true then !f else f):=by
 have hs:=fun ext K=>SRun.callF h rfl rfl (ext:=ext) (K:=K)
 have hM:=sobj_ok m' b a 3
 have hput:=fun ext K=>putF g b a m kid .nil (ext:=ext) (K:=K)
 have hlook:=look_okS b a re ext p q f
 unfold SRun
 unfold Smt.objs at *
 simp only[i64,bV,iD,List.map_cons,List.map_nil,SPlace.cells,SPlace.v,srV,reP,SGoal.d,List.append_nil] at hs hput hlook
 have l3:(0:Int) < ((l.length + 1:Nat):Int):=by omega
 refine fn_ok func79 rfl ntmps79 results79 rfl 3 999 (by simp) (by simp) ?_
 simp only[zX,Nat.reduceShiftRight,Nat.reduceMod,Nat.reduceLT,Nat.reduceMul,Nat.reduceSub,Int.reduceToNat,Int.reduceNeg,Int.reduceLT,Int.reduceLE,Int.reduceEq,Nat.reduceEqDiff,Nat.reduceAdd,Nat.reduceLeDiff,reduceIte,reduceCtorEq,Nat.reduceBEq,i64,bV,iD,srV,SPlace.v,SPlace.cells,List.map_cons,List.map_nil]
 refine draw_first Cln0.reserve ?_
 refine draw_c mix [] [(1,[3],[]),(2,[3],[]),(3,[3],[]),(4,[3],[]),(8,[],[]),(9,[],[]),(10,[],[]),(11,[0,1,2],[]),(13,[0,1,2],[0,1,2]),(17,[5],[5]),(18,[5],[5])] (by rfl) ?_
 simp only[zX,Nat.reduceShiftRight,Nat.reduceMod,Nat.reduceLT,Nat.reduceMul,Nat.reduceSub,Int.reduceToNat,Int.reduceNeg,Int.reduceLT,Int.reduceLE,Int.reduceEq,Nat.reduceEqDiff,Nat.reduceAdd,Nat.reduceLeDiff,reduceIte,reduceCtorEq,Nat.reduceBEq,i64,bV,iD,srV,SPlace.v,SPlace.cells,List.map_cons,List.map_nil,List.cons_append,List.nil_append,List.length_map,reP,Re.cells_eq re,hk,List.length_cons,l3]
 refine hput _ _ ?_
 simp only[zX,Nat.reduceShiftRight,Nat.reduceMod,Nat.reduceLT,Nat.reduceMul,Nat.reduceSub,Int.reduceToNat,Int.reduceNeg,Int.reduceLT,Int.reduceLE,Int.reduceEq,Nat.reduceEqDiff,Nat.reduceAdd,Nat.reduceLeDiff,reduceIte,reduceCtorEq,Nat.reduceBEq,i64,bV,iD,srV,SPlace.v,SPlace.cells,List.map_cons,List.map_nil,List.cons_append,List.nil_append]
 refine hs _ _ ?_
 simp only[zX,Nat.reduceShiftRight,Nat.reduceMod,Nat.reduceLT,Nat.reduceMul,Nat.reduceSub,Int.reduceToNat,Int.reduceNeg,Int.reduceLT,Int.reduceLE,Int.reduceEq,Nat.reduceEqDiff,Nat.reduceAdd,Nat.reduceLeDiff,reduceIte,reduceCtorEq,Nat.reduceBEq,i64,bV,iD,srV,SPlace.v,SPlace.cells,List.map_cons,List.map_nil,List.cons_append,List.nil_append,hole,mP]
 simp only[Re.cells_eq re,List.cons_append,List.nil_append,iD,hk] at hlook
 refine call_pure hlook (by simp [refsV,refsV.go,reV_eq,i64,bV,reEl]) (by simp [refsV,refsV.go,reV_eq,i64,bV,reEl]) ?_
 unfold lookS
 simp only[zX,Nat.reduceShiftRight,Nat.reduceMod,Nat.reduceLT,Nat.reduceMul,Nat.reduceSub,Int.reduceToNat,Int.reduceNeg,Int.reduceLT,Int.reduceLE,Int.reduceEq,Nat.reduceEqDiff,Nat.reduceAdd,Nat.reduceLeDiff,reduceIte,reduceCtorEq,Nat.reduceBEq,i64,bV,iD,srV,SPlace.v,SPlace.cells,List.map_cons,List.map_nil,List.cons_append,List.nil_append]
 exact hM
end Go.Proofs.Ytpppfpaalcbggaa
