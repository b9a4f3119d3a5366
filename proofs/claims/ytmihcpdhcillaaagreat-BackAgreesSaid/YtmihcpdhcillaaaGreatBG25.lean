/- A part of the proof (S7 S8 S9). -/
import Derived.Test.YtmihcpdhcillaaaGreatBG23
import Derived.Test.YtmihcpdhcillaaaGreatBG24
import Derived.Test.YtmihcpdhcillaaaGreatBG10
set_option linter.unusedSimpArgs false
set_option linter.unusedVariables false
set_option maxRecDepth 100000
set_option maxHeartbeats 80000000
namespace Go.Proofs.YtmihcpdhcillaaaGreat
open Go.VL Go.Proofs.Tryz
structure er (m:bp) (p:ai):Prop where
 s0:0≤m.steps
 s1:m.steps≤10000000000000
 top:m.top≤m.cO.length
 EK:m.top≤1000000000000
 a0:0≤p.at_
 a1:p.at_≤m.t.length
 t:m.t.length≤1000000
inductive cY where
 |search (base:Nat)
 |inner (base:Nat) (p:ai) (alive:Bool)
 |call (p:ai)
 |op (re:Re) (ext:List D) (p:ai)
 |first (p:ai)
 |behind (re kid:Re) (p:ai) (j:Nat)
def mW (re:Re) (p q:ai):ai:=if re.neg=true then p else { p with ak:=q.ak }
inductive fG:Nat→cY→bp→bp→ai→Bool→Prop where
 |stop {n base:Nat}{m:bp} (h:m.top≤base∨m.aK=true):fG n (.search base) m m .zero false
 |pop {n k base:Nat}{m m':bp}{q r:ai}{f:Bool} (hk:k<n) (hb:base<m.top) (ht:m.top≤m.cO.length) (hm:m.top≤1000000000000) (hs:m.aK=false) (hq:m.cO[m.top-1]?=some q)
   (h:fG k (.inner base q true) { m with top:=m.top-1 } m' r f):fG n (.search base) m m' r f
 |done {n base:Nat}{m:bp}{p:ai} (h:p.todo=.nil):fG n (.inner base p true) m m p true
 |dead {n k base:Nat}{m m':bp}{p r:ai}{f:Bool} (hk:k<n) (h:fG k (.search base) m m' r f):fG n (.inner base p false) m m' r f
 |move {n k1 k2 base:Nat}{m m1 m':bp}{p p1 r:ai}{a1 f:Bool} (jT:k1<n) (od:k2<n) (hp:p.todo≠.nil) (h1:fG k1 (.call p) m m1 p1 a1) (h2:fG k2 (.inner base p1 a1) m1 m' r f):fG n (.inner base p true) m m' r f
 |wk {n:Nat}{m:bp}{x:Int}{c:Option ar}{re:Re}{ext:List D}{nx:aF} (hg:er m ⟨x,c,.tree re ext nx⟩) (ho:re.op≠4) (hf:m.fuel≤m.steps):fG n (.call ⟨x,c,.tree re ext nx⟩) m m.step .zero false
 |tree {n k:Nat}{m m':bp}{x:Int}{c:Option ar}{re:Re}{ext:List D}{nx:aF}{r:ai}{f:Bool} (hk:k<n) (hg:er m ⟨x,c,.tree re ext nx⟩) (ho:re.op≠4) (hf:m.steps<m.fuel)
   (h:fG k (.op re ext ⟨x,c,nx⟩) m.step m' r f):fG n (.call ⟨x,c,.tree re ext nx⟩) m m' r f
 |rep {n k:Nat}{m m':bp}{x:Int}{c:Option ar}{re:Re}{ext:List D}{nx:aF}{r:ai}{f:Bool} (hk:k<n) (ho:re.op=4) (h:fG k (.op re ext ⟨x,c,nx⟩) m m' r f):fG n (.call ⟨x,c,.tree re ext nx⟩) m m' r f
 |nB {n:Nat}{m:bp}{x:Int}{c:Option ar}{re:Re}{ext:List D}{k:Int}{nx:aF} (hg:er m ⟨x,c,.round re ext k nx⟩) (hf:m.fuel≤m.steps):fG n (.call ⟨x,c,.round re ext k nx⟩) m m.step .zero false
 |w4 {n:Nat}{m:bp}{x:Int}{c:Option ar}{re kid:Re}{l:List Re}{ext:List D}{k:Int}{nx:aF} (hg:er m ⟨x,c,.round re ext k nx⟩) (hk:re.kids=kid::l) (h0:0≤k) (h1:k≤10000000000000) (hf:m.steps<m.fuel) (hm:k<re.mn) :
   fG n (.call ⟨x,c,.round re ext k nx⟩) m m.step ⟨x,c,.tree kid [] (.round re ext (k+1) nx)⟩ true
 |xw {n:Nat}{m:bp}{x:Int}{c:Option ar}{re kid:Re}{l:List Re}{ext:List D}{k:Int}{nx:aF} (hg:er m ⟨x,c,.round re ext k nx⟩) (hk:re.kids=kid::l) (hf:m.steps<m.fuel) (hm:¬k<re.mn) (hx:0≤re.mx) (BI:re.mx≤k) :
   fG n (.call ⟨x,c,.round re ext k nx⟩) m m.step ⟨x,c,nx⟩ true
 |uQ {n:Nat}{m:bp}{x:Int}{c:Option ar}{re kid:Re}{l:List Re}{ext:List D}{k:Int}{nx:aF} (hg:er m ⟨x,c,.round re ext k nx⟩) (hk:re.kids=kid::l) (h0:0≤k) (h1:k≤10000000000000) (hf:m.steps<m.fuel) (hm:¬k<re.mn) (hx:¬(0≤re.mx∧re.mx≤k)) (ho:re.mode=1) :
   fG n (.call ⟨x,c,.round re ext k nx⟩) m (m.step.push ⟨x,c,.tree kid [] (.dv x re ext (k+1) nx)⟩) ⟨x,c,nx⟩ true
 |uS {n:Nat}{m:bp}{x:Int}{c:Option ar}{re kid:Re}{l:List Re}{ext:List D}{k:Int}{nx:aF} (hg:er m ⟨x,c,.round re ext k nx⟩) (hk:re.kids=kid::l) (h0:0≤k) (h1:k≤10000000000000) (hf:m.steps<m.fuel) (hm:¬k<re.mn) (hx:¬(0≤re.mx∧re.mx≤k)) (ho:re.mode≠1) :
   fG n (.call ⟨x,c,.round re ext k nx⟩) m (m.step.push ⟨x,c,nx⟩) ⟨x,c,.tree kid [] (.dv x re ext (k+1) nx)⟩ true
 |stay {n:Nat}{m:bp}{x:Int}{c:Option ar}{re:Re}{ext:List D}{k:Int}{nx:aF}:fG n (.call ⟨x,c,.dv x re ext k nx⟩) m m .zero false
 |dv {n j:Nat}{m m':bp}{x y:Int}{c:Option ar}{re:Re}{ext:List D}{k:Int}{nx:aF}{r:ai}{f:Bool} (hj:j<n) (hy:x≠y) (h:fG j (.call ⟨x,c,.round re ext k nx⟩) m m' r f):fG n (.call ⟨x,c,.dv y re ext k nx⟩) m m' r f
 |fin {n:Nat}{m:bp}{x y:Int}{c:ar}{re:Re}{ext:List D}{nx:aF} (hl:c.length=9) (h0:1≤re.n) (h1:re.n≤9):fG n (.call ⟨x,some c,.fin y re ext nx⟩) m m ⟨x,some (c.set (re.n-1).toNat (y,x)),nx⟩ true
 |here {n:Nat}{m:bp}{x y:Int}{c:Option ar}{c':Option ar}{t':aF}{nx:aF}:fG n (.call ⟨x,c,.here y c' t' nx⟩) m m ⟨x,c,nx⟩ (decide (x=y))
 |empty {n:Nat}{m:bp}{re:Re}{ext:List D}{p:ai} (ho:re.op=0):fG n (.op re ext p) m m p true
 |Ni {n:Nat}{m:bp}{re:Re}{ext:List D}{p:ai} (ho:re.op=1) (hg:er m p) (hs:re.set.length≤1000000000) (h:p.at_<m.t.length) (hi:nn re.set (fX m.t p.at_)=true):fG n (.op re ext p) m m { p with at_:=p.at_+1 } true
 |xK {n:Nat}{m:bp}{re:Re}{ext:List D}{p:ai} (ho:re.op=1) (hg:er m p) (hs:re.set.length≤1000000000) (h:p.at_<m.t.length) (hi:nn re.set (fX m.t p.at_)=false):fG n (.op re ext p) m m .zero false
 |JA {n:Nat}{m:bp}{re:Re}{ext:List D}{p:ai} (ho:re.op=1) (h:¬p.at_<m.t.length):fG n (.op re ext p) m m .zero false
 |cat {n:Nat}{m:bp}{re:Re}{ext:List D}{p:ai} (ho:re.op=2) (hk:re.kids.length≤1000000000):fG n (.op re ext p) m m { p with todo:=zQ re.kids p.todo } true
 |alt {n:Nat}{m:bp}{re kid:Re}{l:List Re}{ext:List D}{p:ai} (ho:re.op=3) (hk:re.kids=kid::l) (dN:re.kids.length≤1000000000) (hg:er m p):fG n (.op re ext p) m (rj l p m) { p with todo:=.tree kid [] p.todo } true
 |Hy {n k:Nat}{m m':bp}{re:Re}{ext:List D}{p q:ai}{f:Bool} (hk:k<n) (ho:re.op=4) (hm:re.mode=2) (h:fG k (.first { p with todo:=.round re ext 0 .nil }) m m' q f):fG n (.op re ext p) m m' { q with todo:=p.todo } f
 |Pm {n:Nat}{m:bp}{re:Re}{ext:List D}{p:ai} (ho:re.op=4) (hm:re.mode≠2):fG n (.op re ext p) m m { p with todo:=.round re ext 0 p.todo } true
 |fx {n:Nat}{m:bp}{re kid:Re}{l:List Re}{ext:List D}{p:ai} (ho:re.op=5) (hk:re.kids=kid::l):fG n (.op re ext p) m m { p with todo:=.tree kid [] (.fin p.at_ re ext p.todo) } true
 |vg {n:Nat}{m:bp}{re:Re}{ext:List D}{p:ai}{c:ar}{x:Int×Int} (ho:re.op=6) (hg:er m p) (hc:p.ak=some c) (hl:c.length=9) (hn:1≤re.n) (hx:c[(re.n-1).toNat]?=some x) (hb:-1000000≤x.1∧-1000000≤x.2∧x.1≤1000000∧x.2≤1000000)
   (hq:x.1<0∨(m.t.length:Int)-p.at_<x.2-x.1):fG n (.op re ext p) m m .zero false
 |pe {n:Nat}{m:bp}{re:Re}{ext:List D}{p:ai}{c:ar}{x1 x2:Nat} (ho:re.op=6) (hg:er m p) (hc:p.ak=some c) (hl:c.length=9) (hn:1≤re.n) (hx:c[(re.n-1).toNat]?=some ((x1:Int),(x2:Int))) (eU:x1≤x2) (h2:x2≤m.t.length) (hq:p.at_+(x2-x1:Nat)≤m.t.length) :
   fG n (.op re ext p) m m (if cW m.t x1 p.at_ (x2-x1)=true then { p with at_:=p.at_+(x2-x1:Nat) } else .zero) (cW m.t x1 p.at_ (x2-x1))
 |ahead {n k:Nat}{m m':bp}{re kid:Re}{l:List Re}{ext:List D}{p q:ai}{f:Bool} (hk:k<n) (ho:re.op=7) (dN:re.kids=kid::l) (h:fG k (.first { p with todo:=.tree kid [] .nil }) m m' q f):fG n (.op re ext p) m m' (mW re p q) (if re.neg=true then !f else f)
 |behind {n k:Nat}{m m':bp}{re kid:Re}{l:List Re}{ext:List D}{p r:ai}{f:Bool} (hk:k<n) (ho:re.op=8) (dN:re.kids=kid::l) (hp:0≤p.at_) (Ef:p.at_≤1000000) (h:fG k (.behind re kid p (p.at_.toNat+1)) m m' r f):fG n (.op re ext p) m m' r f
 |atom {n k:Nat}{m m':bp}{re kid:Re}{l:List Re}{ext:List D}{p q:ai}{f:Bool} (hk:k<n) (ho:re.op=9) (dN:re.kids=kid::l) (h:fG k (.first { p with todo:=.tree kid [] .nil }) m m' q f):fG n (.op re ext p) m m' { q with todo:=p.todo } f
 |cond {n:Nat}{m:bp}{re yes no:Re}{l:List Re}{ext:List D}{p:ai}{c:ar}{x:Int×Int} (ho:re.op=10) (dN:re.kids=yes::no::l) (hc:p.ak=some c) (hl:c.length=9) (hn:1≤re.n) (hx:c[(re.n-1).toNat]?=some x) :
   fG n (.op re ext p) m m { p with todo:=.tree (if 0≤x.1 then yes else no) [] p.todo } true
 |assert {n:Nat}{m:bp}{re:Re}{ext:List D}{p:ai} (ho:re.op=11) (hg:er m p) (h0:0≤re.n) (h1:re.n≤5):fG n (.op re ext p) m m p (bO re.n m.t p.at_)
 |first {n k:Nat}{m m':bp}{p r:ai}{f:Bool} (hk:k<n) (ht:m.top≤m.cO.length) (hm:m.top≤1000000000000) (h:fG k (.search m.top) (m.push p) m' r f) (h1:m.top≤m'.top) (h2:m'.top≤m'.cO.length):fG n (.first p) m { m' with top:=m.top } r f
 |tU {n j:Nat}{m:bp}{re kid:Re}{p:ai} (h:j=0∨m.aK=true):fG n (.behind re kid p j) m m (mW re p .zero) (if re.neg=true then true else false)
 |nQ {n k j:Nat}{m m':bp}{re kid:Re}{p q:ai} (hk:k<n) (hs:m.aK=false) (h:fG k (.first ⟨j,p.ak,.tree kid [] (.here p.at_ p.ak p.todo .nil)⟩) m m' q true):fG n (.behind re kid p (j+1)) m m' (mW re p q) (if re.neg=true then false else true)
 |ov {n k1 k2 j:Nat}{m m1 m':bp}{re kid:Re}{p q r:ai}{f:Bool} (jT:k1<n) (od:k2<n) (hs:m.aK=false) (h:fG k1 (.first ⟨j,p.ak,.tree kid [] (.here p.at_ p.ak p.todo .nil)⟩) m m1 q false) (h2:fG k2 (.behind re kid p j) m1 m' r f) :
   fG n (.behind re kid p (j+1)) m m' r f
theorem Fp (g b a:Nat) (m:bp) (re:Re) (ext:List D) (p:ai) (hg:er m p) (h0:0≤re.n) (h1:re.n≤5):av prog 68 [.pp 0 g 0 0 b a,.d (di re ext),p.v b a] (m.au g b a) fun v s=>v=dH b a p (bO re.n m.t p.at_)∧s=m.au g b a:=by
 have hM:=b9 m b a 3
 have hA:=uz re.n m.t p.at_ h0 h1 hg.t hg.a0 hg.a1
 unfold bp.au
 simp only[aB,i64,bV,iD]at *
 refine aw func68 rfl ntmps68 results68 rfl 3 231 (by simp) (by simp) ?_
 simp only[zX,Nat.reduceShiftRight,Nat.reduceMod,Nat.reduceLT,Nat.reduceMul,Nat.reduceSub,Int.reduceToNat,Int.reduceNeg,Int.reduceLT,Int.reduceLE,Int.reduceEq,Nat.reduceEqDiff,Nat.reduceAdd,Nat.reduceLeDiff,reduceIte,reduceCtorEq,Nat.reduceBEq,i64,bV,iD,dH,ai.v,ai.cells,WU,WV,aB]
 refine aq mix [] [(0,[3],[]),(3,[],[]),(4,[],[]),(7,[0],[]),(8,[0],[]),(9,[3],[]),(10,[3],[]),(12,[4],[4])] (by rfl) ?_
 simp only[zX,Nat.reduceShiftRight,Nat.reduceMod,Nat.reduceLT,Nat.reduceMul,Nat.reduceSub,Int.reduceToNat,Int.reduceNeg,Int.reduceLT,Int.reduceLE,Int.reduceEq,Nat.reduceEqDiff,Nat.reduceAdd,Nat.reduceLeDiff,reduceIte,reduceCtorEq,Nat.reduceBEq,i64,bV,iD,WU,WV,di,Re.ae re,WR,WS]
 refine cP hA rfl rfl ?_
 simp only[zX,Nat.reduceShiftRight,Nat.reduceMod,Nat.reduceLT,Nat.reduceMul,Nat.reduceSub,Int.reduceToNat,Int.reduceNeg,Int.reduceLT,Int.reduceLE,Int.reduceEq,Nat.reduceEqDiff,Nat.reduceAdd,Nat.reduceLeDiff,reduceIte,reduceCtorEq,Nat.reduceBEq,i64,bV,iD,dH,ai.v,ai.cells,WU,WV,aB]
 exact hM
theorem LF (g b a:Nat) (m:bp) (re:Re) (ext:List D) (p:ai) {c:ar}{x:Int×Int} (hg:er m p) (hc:p.ak=some c) (hl:c.length=9) (hn:1≤re.n) (hx:c[(re.n-1).toNat]?=some x) (hb:-1000000≤x.1∧-1000000≤x.2∧x.1≤1000000∧x.2≤1000000)
  (hq:x.1<0∨(m.t.length:Int)-p.at_<x.2-x.1):av prog 63 [.pp 0 g 0 0 b a,.d (di re ext),p.v b a] (m.au g b a) fun v s=>v=dH b a .zero false∧s=m.au g b a:=by
 obtain⟨x1,x2⟩:=x
 simp only at hb hq
 have aS:(re.n-1).toNat<9:=by rw[← hl];exact(List.getElem?_eq_some_iff.1 hx).1
 have wn:IntKind.i64.wrap (re.n-1)=re.n-1:=bU _ (by omega)
 have w1:IntKind.i64.wrap (x2-x1)=x2-x1:=bU _ (by omega)
 have w2:IntKind.i64.wrap ((m.t.length:Int)-p.at_)=m.t.length-p.at_:=bU _ (by have:=hg.t;have:=hg.a0;have:=hg.a1;omega)
 have n0:(0:Int)≤re.n-1:=by omega
 have n9:re.n-1<((9:Nat):Int):=by omega
 have hM:=b9 m b a 3
 obtain⟨tl,hd⟩:=wL hx
 rw[Nat.mul_comm]at hd
 obtain⟨C,hC⟩:∃C,c.flatMap (fun p=>[iD p.1,iD p.2])=C:=⟨_,rfl⟩
 have AU:dK p.ak=.el C:=by rw[hc,← hC];rfl
 rw[hC]at hd
 simp only[iD]at hd
 unfold bp.au
 refine aw func63 rfl ntmps63 results63 rfl 3 999 (by simp) (by simp) ?_
 simp only[zX,Nat.reduceShiftRight,Nat.reduceMod,Nat.reduceLT,Nat.reduceMul,Nat.reduceSub,Int.reduceToNat,Int.reduceNeg,Int.reduceLT,Int.reduceLE,Int.reduceEq,Nat.reduceEqDiff,Nat.reduceAdd,Nat.reduceLeDiff,reduceIte,reduceCtorEq,Nat.reduceBEq,i64,bV,iD,dH,ai.v,ai.cells,WU,WV,aB]
 refine aH bM.aP ?_
 refine aq mix [] [(0,[3],[]),(1,[3],[]),(10,[5],[5]),(11,[5],[5])] (by rfl) ?_
 simp only[zX,Nat.reduceShiftRight,Nat.reduceMod,Nat.reduceLT,Nat.reduceMul,Nat.reduceSub,Int.reduceToNat,Int.reduceNeg,Int.reduceLT,Int.reduceLE,Int.reduceEq,Nat.reduceEqDiff,Nat.reduceAdd,Nat.reduceLeDiff,reduceIte,reduceCtorEq,Nat.reduceBEq,i64,bV,iD,hole,AU,di,Re.ae re,WR,WS,wn,n0,n9,hd,WU,WV,w1]
 refine⟨by decide,by decide,?_⟩
 by_cases q1:x1<0
 ·refine aq mix [] [(0,[5],[]),(1,[5],[]),(6,[0],[]),(7,[0],[]),(8,[0],[]),(9,[2],[]),(10,[3],[]),(11,[3],[])] (by rfl) ?_
  simp only[zX,Nat.reduceShiftRight,Nat.reduceMod,Nat.reduceLT,Nat.reduceMul,Nat.reduceSub,Int.reduceToNat,Int.reduceNeg,Int.reduceLT,Int.reduceLE,Int.reduceEq,Nat.reduceEqDiff,Nat.reduceAdd,Nat.reduceLeDiff,reduceIte,reduceCtorEq,Nat.reduceBEq,i64,bV,iD,w1,w2,q1,gt_iff_lt,dH,ai.v,ai.cells,ai.zero,dK,aF.d,WU,WV]
  exact⟨by decide,hM⟩
 ·have q2:(m.t.length:Int)-p.at_<x2-x1:=by omega
  refine aq mix [] [(0,[5],[]),(1,[5],[]),(6,[0],[]),(7,[0],[]),(8,[0],[]),(9,[2],[]),(10,[3],[]),(11,[3],[])] (by rfl) ?_
  simp only[zX,Nat.reduceShiftRight,Nat.reduceMod,Nat.reduceLT,Nat.reduceMul,Nat.reduceSub,Int.reduceToNat,Int.reduceNeg,Int.reduceLT,Int.reduceLE,Int.reduceEq,Nat.reduceEqDiff,Nat.reduceAdd,Nat.reduceLeDiff,reduceIte,reduceCtorEq,Nat.reduceBEq,i64,bV,iD,w1,w2,q1,q2,gt_iff_lt,W1,dH,ai.v,ai.cells,ai.zero,dK,aF.d,WU,WV]
  exact⟨by decide,hM⟩
theorem Ja (g b a:Nat) (m:bp) (re:Re) (ext:List D) (p:ai) {c:ar}{x1 x2:Nat} (hg:er m p) (hc:p.ak=some c) (hl:c.length=9) (hn:1≤re.n) (hx:c[(re.n-1).toNat]?=some ((x1:Int),(x2:Int))) (eU:x1≤x2) (h2:x2≤m.t.length) (hq:p.at_+(x2-x1:Nat)≤m.t.length) :
  av prog 63 [.pp 0 g 0 0 b a,.d (di re ext),p.v b a] (m.au g b a) fun v s=>v=dH b a (if cW m.t x1 p.at_ (x2-x1)=true then { p with at_:=p.at_+(x2-x1:Nat) } else .zero) (cW m.t x1 p.at_ (x2-x1))∧s=m.au g b a:=by
 have ht:=hg.t
 have ha0:=hg.a0
 have Wt:=hg.a1
 have aS:(re.n-1).toNat<9:=by rw[← hl];exact(List.getElem?_eq_some_iff.1 hx).1
 obtain⟨i,hi⟩:∃i:Nat,p.at_=i:=⟨p.at_.toNat,by omega⟩
 rw[hi]at hq ⊢
 have ed:((x2-x1:Nat):Int)=(x2:Int)-x1:=by omega
 rw[ed]at hq ⊢
 have wn:IntKind.i64.wrap (re.n-1)=re.n-1:=bU _ (by omega)
 have w1:IntKind.i64.wrap ((x2:Int)-x1)=x2-x1:=bU _ (by omega)
 have w2:IntKind.i64.wrap ((m.t.length:Int)-i)=m.t.length-i:=bU _ (by omega)
 have w3:IntKind.i64.wrap ((i:Int)+((x2:Int)-x1))=i+((x2:Int)-x1):=bU _ (by omega)
 have n0:(0:Int)≤re.n-1:=by omega
 have n9:re.n-1<((9:Nat):Int):=by omega
 have q1:¬(x1:Int)<0:=by omega
 have q2:¬(m.t.length:Int)-i<(x2:Int)-x1:=by omega
 have l1:(0:Int)≤(x1:Int):=by omega
 have l2:(x1:Int)≤(x2:Int):=by omega
 have l3:(x2:Int)≤(m.t.length:Int):=by omega
 have l4:(0:Int)≤(i:Int):=by omega
 have l5:(i:Int)≤(i:Int)+((x2:Int)-x1):=by omega
 have l6:(i:Int)+((x2:Int)-x1)≤(m.t.length:Int):=by omega
 have e1:((x2:Int)-x1).toNat=x2-x1:=by omega
 have e2:((i:Int)+((x2:Int)-x1)-i).toNat=x2-x1:=by omega
 have hM:=b9 m b a 3
 have Iy:=lh (t:=m.t) (a:=x1) (i:=i) (n:=x2-x1) (by omega) (by omega)
 have hE:=lQ ((m.t.drop x1).take (x2-x1)) ((m.t.drop i).take (x2-x1)) (by simp;omega)
 rw[Iy]at hE
 obtain⟨tl,hd⟩:=wL hx
 rw[Nat.mul_comm]at hd
 obtain⟨C,hC⟩:∃C,c.flatMap (fun p=>[iD p.1,iD p.2])=C:=⟨_,rfl⟩
 have AU:dK p.ak=.el C:=by rw[hc,← hC];rfl
 rw[hC]at hd
 simp only[iD]at hd
 unfold bp.au;simp only[aB]
 refine aw func63 rfl ntmps63 results63 rfl 3 999 (by simp) (by simp) ?_
 simp only[zX,Nat.reduceShiftRight,Nat.reduceMod,Nat.reduceLT,Nat.reduceMul,Nat.reduceSub,Int.reduceToNat,Int.reduceNeg,Int.reduceLT,Int.reduceLE,Int.reduceEq,Nat.reduceEqDiff,Nat.reduceAdd,Nat.reduceLeDiff,reduceIte,reduceCtorEq,Nat.reduceBEq,i64,bV,iD,dH,ai.v,ai.cells,WU,WV,hi]
 refine aH bM.aP ?_
 refine aq mix [] [(0,[3],[]),(1,[3],[]),(10,[5],[5]),(11,[5],[5])] (by rfl) ?_
 simp only[zX,Nat.reduceShiftRight,Nat.reduceMod,Nat.reduceLT,Nat.reduceMul,Nat.reduceSub,Int.reduceToNat,Int.reduceNeg,Int.reduceLT,Int.reduceLE,Int.reduceEq,Nat.reduceEqDiff,Nat.reduceAdd,Nat.reduceLeDiff,reduceIte,reduceCtorEq,Nat.reduceBEq,i64,bV,iD,hole,AU,di,Re.ae re,WR,WS,wn,n0,n9,hd,WU,WV,w1,hi]
 refine⟨by decide,by decide,?_⟩
 refine aq mix [] [(0,[5],[]),(1,[5],[]),(6,[0],[]),(7,[0],[]),(8,[0],[]),(9,[2],[]),(10,[3],[]),(11,[3],[])] (by rfl) ?_
 simp only[zX,Nat.reduceShiftRight,Nat.reduceMod,Nat.reduceLT,Nat.reduceMul,Nat.reduceSub,Int.reduceToNat,Int.reduceNeg,Int.reduceLT,Int.reduceLE,Int.reduceEq,Nat.reduceEqDiff,Nat.reduceAdd,Nat.reduceLeDiff,reduceIte,reduceCtorEq,Nat.reduceBEq,i64,bV,iD,w1,w2,q1,q2,gt_iff_lt,W1,hi]
 refine⟨by decide,?_⟩
 refine aq mix [20] [(1,[0],[]),(2,[0],[]),(3,[0],[]),(4,[5],[]),(5,[5],[]),(6,[5],[]),(7,[5],[]),(8,[2],[]),(10,[0],[]),(11,[0],[]),(12,[0],[]),(13,[3],[]),(14,[3],[]),(15,[3],[]),(16,[3],[]),(19,[2],[])] (by rfl) ?_
 have Nn:∀e∈m.t.map (fun x=>[D.sc (Value.int IntKind.i64 x)]),e.length=1:=by
  intro e he;obtain⟨y,_,rfl⟩:=List.mem_map.1 he;rfl
 simp only[aB,XR,List.map_drop,bV,iD]at hE
 simp only[zX,Nat.reduceShiftRight,Nat.reduceMod,Nat.reduceLT,Nat.reduceMul,Nat.reduceSub,Int.reduceToNat,Int.reduceNeg,Int.reduceLT,Int.reduceLE,Int.reduceEq,Nat.reduceEqDiff,Nat.reduceAdd,Nat.reduceLeDiff,reduceIte,reduceCtorEq,Nat.reduceBEq,i64,bV,iD,hi,w1,w3,l1,l2,l3,l4,l5,l6,W1,e1,e2,Xp]
 refine⟨by decide,by decide,.inr Nn,.inr Nn,bu (aD hE rfl rfl ⟨rfl,rfl⟩) ?_⟩
 cases lf:cW m.t x1 i (x2-x1) with
 |true =>
  simp only[zX,Nat.reduceShiftRight,Nat.reduceMod,Nat.reduceLT,Nat.reduceMul,Nat.reduceSub,Int.reduceToNat,Int.reduceNeg,Int.reduceLT,Int.reduceLE,Int.reduceEq,Nat.reduceEqDiff,Nat.reduceAdd,Nat.reduceLeDiff,reduceIte,reduceCtorEq,Nat.reduceBEq,i64,bV,iD,hi,w1,w3,lf,WY,W0,dH,ai.v,ai.cells,WU,WV,AU]
  exact hM
 |false =>
  simp only[zX,Nat.reduceShiftRight,Nat.reduceMod,Nat.reduceLT,Nat.reduceMul,Nat.reduceSub,Int.reduceToNat,Int.reduceNeg,Int.reduceLT,Int.reduceLE,Int.reduceEq,Nat.reduceEqDiff,Nat.reduceAdd,Nat.reduceLeDiff,reduceIte,reduceCtorEq,Nat.reduceBEq,i64,bV,iD,hi,w1,w3,lf,WY,W0,W2,dH,ai.v,ai.cells,ai.zero,dK,aF.d,WU,WV]
  exact hM
def aF.fn:aF→FuncId
 |.nil=>0
 |.tree _ _ _=>69
 |.round _ _ _ _=>102
 |.dv _ _ _ _ _=>103
 |.fin _ _ _ _=>89
 |.here _ _ _ _=>92
def aF.bound (b a:Nat):aF→List D
 |.nil=>[]
 |.tree re ext _=>[.el [di re ext],.el [mP b a]]
 |.round re ext k _=>[.el [mP b a],.el [di re ext],.el [iD k]]
 |.dv x re ext k _=>[.el [iD x],.el [dW b a re ext k]]
 |.fin x re ext _=>[.el [iD x],.el [di re ext]]
 |.here x c t _=>[.el [iD x,dK c,t.d b a]]
def aF.next:aF→aF
 |.nil=>.nil
 |.tree _ _ nx=>nx
 |.round _ _ _ nx=>nx
 |.dv _ _ _ _ nx=>nx
 |.fin _ _ _ nx=>nx
 |.here _ _ _ nx=>nx
theorem aF.TG (b a:Nat) {h:aF} (hn:h≠.nil):h.d b a=.el [.cl (.func h.fn) [] (h.bound b a),h.next.d b a]:=by
 cases h <;> first|rfl|exact absurd rfl hn
def HN (o:Int):FuncId :=
 if o=1 then 58 else if o=2 then 59 else if o=3 then 60 else if o=4 then 61
 else if o=5 then 62 else if o=6 then 63 else if o=7 then 64 else if o=8 then 65
 else if o=9 then 66 else if o=10 then 67 else if o=11 then 68 else 57
def eY (f:FuncId) (args:List V) (g b a:Nat) (m m':bp) (r:ai) (fd:Bool):Prop:=av prog f args (m.au g b a) fun v s=>v=dH b a r fd∧s=m'.au g b a
def cY.wp (g b a:Nat) (m m':bp) (r:ai) (f:Bool):cY→Prop
 |.search base=>eY 40 [.pp 0 g 0 0 b a,i64 (base:Nat)] g b a m m' r f
 |.inner _ _ _=>True
 |.call p=>eY p.todo.fn (i64 p.at_::.d (dK p.ak)::.d (p.todo.next.d b a)::cX.go (.pp 0 g 0 0 b a) (p.todo.bound b a)) g b a m m' r f
 |.op re ext p=>eY (HN re.op) [.pp 0 g 0 0 b a,.d (di re ext),p.v b a] g b a m m' r f
 |.first p=>eY 86 [.pp 0 g 0 0 b a,p.v b a] g b a m m' r f
 |.behind _ _ _ _=>True
theorem Ly (b a:Nat) (l:List Nat) (r:ai) (f:Bool):bF l (dH b a r f)=dH b a r f:=rfl
theorem eY.ext {f:FuncId}{g b a:Nat}{cargs:List V}{m m':bp}{r:ai}{fd:Bool} (h:eY f cargs g b a m m' r fd) (ha:cargs.map (bF [0,1,2])=cargs) (td:ao.go 3 cargs=true) (ext:List VL.Obj) :
  av prog f cargs (m.au g b a++ext) fun v s=>v=dH b a r fd∧s=m'.au g b a++ext:=dX h ha td (Ly _ _ _ _ _) ext
theorem Ib (g b a:Nat) {m m':bp}{p r:ai}{f:Bool} (ht:m.top≤m.cO.length) (hm:m.top≤1000000000000) (h:cY.wp g b a (m.push p) m' r f (.search m.top)) (h1:m.top≤m'.top) (h2:m'.top≤m'.cO.length):cY.wp g b a m { m' with top:=m.top } r f (.first p):=by
 have hs:=fun ext=>eY.ext h rfl rfl ext
 have hM:=b9 m' b a 3
 have iI:min m.top m.cO.length=m.top:=by omega
 unfold cY.wp eY
 unfold bp.au bp.push at *
 simp only[i64,bV,iD,XC,XR,WU,WV,ai.cells]at hs
 refine aw func86 rfl ntmps86 results86 rfl 3 507 (by simp) (by simp) ?_
 simp only[zX,simprocAttr,i64,bV,iD,dH,ai.v,ai.cells,WU,WV]
 refine aq mix [] [(2,[0],[]),(3,[0],[]),(4,[0],[]),(5,[3],[]),(7,[2],[2]),(8,[0],[]),(9,[0],[]),(10,[0],[0])] (by rfl) ?_
 simp only[zX,simprocAttr,i64,bV,iD,dH,ai.v,ai.cells,WU,WV,WR,WS,ht,iI,W1]
 refine⟨rfl,by simp,⟨by omega,by omega⟩,?_⟩
 refine aj (hs _) (fun v s' hv=>?_);obtain⟨rfl,rfl⟩:=hv
 simp only[zX,simprocAttr,i64,bV,iD,dH,ai.v,ai.cells,WU,WV,WR,WS,h2,Xi,W1,Xu]
 refine⟨by omega,hM,?_⟩
 simp
theorem Eh {g b a:Nat}{m:bp}{ext s':List VL.Obj} (hl:s'.length=(m.au g b a++ext).length) (hr:∀id∈[0,1,2],s'[id]?=(m.au g b a++ext)[id]?):s'=m.au g b a++s'.drop 3:=by
 have h0:=hr 0 (by simp);have h1:=hr 1 (by simp);have h2:=hr 2 (by simp)
 match s',hl,h0,h1,h2 with
 |[],hl,_,_,_=>simp [bp.au]at hl
 |[_],hl,_,_,_=>simp [bp.au]at hl
 |[_,_],hl,_,_,_=>simp [bp.au]at hl
 |x::y::z::l,_,h0,h1,h2 =>
  unfold bp.au at *
  simp at h0 h1 h2
  subst h0 h1 h2
  rfl
theorem eY.mq {f:FuncId}{g b a:Nat}{cargs:List V}{m m':bp}{r:ai}{fd:Bool}{ext:List VL.Obj}{K:V→List VL.Obj→Prop} (h:eY f cargs g b a m m' r fd) (ha:cargs.map (bF [0,1,2])=cargs) (td:ao.go 3 cargs=true)
  (hk:K (dH b a r fd) (m'.au g b a++ext)):mq prog [0,1,2] [0,1,2] f cargs (m.au g b a++ext) K:=by
 refine⟨dH b a r fd,m'.au g b a,rfl,fun s' hl hr=>?_,?_⟩
 ·have e:=Eh hl hr
  have hp:=h.ext ha td (s'.drop 3)
  rw[← e]at hp
  refine aj hp fun v Ar hv=>⟨hv.1,?_⟩
  rw[hv.2,e]
  rfl
 ·exact hk
theorem H8 (g b a:Nat) {m m':bp}{re kid:Re}{l:List Re} (ext:List D) {p q:ai}{f:Bool} (hk:re.kids=kid::l) (h:cY.wp g b a m m' q f (.first { p with todo:=.tree kid [] .nil })) :
  eY 64 [.pp 0 g 0 0 b a,.d (di re ext),p.v b a] g b a m m' (mW re p q) (if re.neg=true then !f else f):=by
 have hs:=fun ext K=>eY.mq h rfl rfl (ext:=ext) (K:=K)
 have hM:=b9 m' b a 3
 have hput:=fun ext K=>NW g b a m kid .nil (ext:=ext) (K:=K)
 have rC:=Dl b a re ext p q f
 unfold eY
 unfold bp.au at *
 simp only[i64,bV,iD,WU,WV,ai.cells,ai.v,dH,di,aF.d,Xk]at hs hput rC
 have l3:(0:Int)<((l.length+1:Nat):Int):=by omega
 refine aw func64 rfl ntmps64 results64 rfl 3 999 (by simp) (by simp) ?_
 simp only[zX,simprocAttr,i64,bV,iD,dH,ai.v,ai.cells,WU,WV]
 refine aH bM.aP ?_
 refine aq mix [] [(1,[3],[]),(2,[3],[]),(3,[3],[]),(4,[3],[]),(8,[],[]),(9,[],[]),(10,[],[]),(11,[0,1,2],[]),(13,[0,1,2],[0,1,2]),(17,[5],[5]),(18,[5],[5])] (by rfl) ?_
 simp only[zX,simprocAttr,i64,bV,iD,dH,ai.v,ai.cells,WU,WV,WR,WS,W1,di,Re.ae re,hk,W3,l3]
 refine hput _ _ ?_
 simp only[zX,simprocAttr,i64,bV,iD,dH,ai.v,ai.cells,WU,WV,WR,WS]
 refine hs _ _ ?_
 simp only[zX,simprocAttr,i64,bV,iD,dH,ai.v,ai.cells,WU,WV,WR,WS,hole,mP]
 simp only[Re.ae re,WR,WS,iD,hk]at rC
 refine aD rC (by simp [ao,ao.go,ay,i64,bV,bT]) (by simp [ao,ao.go,ay,i64,bV,bT]) ?_
 unfold mW
 simp only[zX,simprocAttr,i64,bV,iD,dH,ai.v,ai.cells,WU,WV,WR,WS]
 exact hM
end Go.Proofs.YtmihcpdhcillaaaGreat
