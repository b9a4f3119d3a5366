/- A part of the proof (G21 G22 G23 G24 G25). -/
import Derived.Test.YtmihcpdhcillaaaGreatBG2
import Derived.Test.YtmihcpdhcillaaaGreatBG21
set_option linter.unusedSimpArgs false
set_option linter.unusedVariables false
set_option maxRecDepth 100000
set_option maxHeartbeats 80000000
namespace Go.Proofs.YtmihcpdhcillaaaGreat
open Go.VL Go.Proofs.Tryz
inductive aE where
 |nil
 |root
 |el (re:Re)
def aE.d (b a:Nat):aE→D
 |.nil=>.sc (.pointer none)
 |.root=>.sc (.pointer (some ⟨b,a,none⟩))
 |.el re=>.el re.cells
inductive aG where
 |nil
 |mk (kind:Int) (re:aE) (n at_:Int) (next:aG)
def aG.d (b a:Nat):aG→D
 |.nil=>.sc (.pointer none)
 |.mk kind re n at_ next=>.el [iD kind,re.d b a,iD n,iD at_,next.d b a]
theorem fJ (b a:Nat) (r:aE) (next:aG):br prog 23 [.d (r.d b a),.d (next.d b a)] (.d ((aG.mk 0 r 0 0 next).d b a)):=by
 refine aw func23 rfl ntmps23 results23 rfl 0 19 (by simp) (by simp) ?_
 simp only[zX,simprocAttr,aG.d,iD]
structure aA where
 at_:Int
 ak:ar
 todo:aG
def aA.cells (b a:Nat) (p:aA):List D:=[iD p.at_,bH p.ak,p.todo.d b a]
def aA.zero:aA:=⟨0,[],.nil⟩
def GV (b a:Nat):Option aA→List V
 |some p=>(p.cells b a).map V.d
 |none=>[.d (.sc (.int .i64 0)),.fu [],.d (.sc (.pointer none))]
structure aC where
 p:fj
 t:List Int
 bB:Bool
 own:List Int
 eP:Nat
 cO:List (Option aA)
 top:Nat
 gen:Nat
 cr:Int
 start:Int
 steps:Int
 fuel:Int
 aK:Bool
 ready:Bool
def aC.text (m:aC):V:=if m.bB=true then .so 2 m.eP 0 m.t.length else .d (aB m.t)
def aC.az (g b a:Nat) (m:aC) (T:V):List VL.Obj :=
 [⟨g,true,19,[[.d (iD m.p.re.op),.d (.sl (m.p.re.set.map aT)),.d (.sl (m.p.re.kids.map Re.cells)),.d (iD m.p.re.mn),.d (iD m.p.re.mx),.d (iD m.p.re.mode),.d (iD m.p.re.n),.d (bD m.p.re.neg),i64 m.p.ak,bV m.p.bk,T,.so 2 m.eP 0 m.own.length,.so 1 m.gen 0 m.top,i64 m.cr,i64 m.start,i64 m.steps,i64 m.fuel,bV m.aK,bV m.ready]]⟩,
  ⟨m.gen,true,3,m.cO.map (GV b a)⟩,⟨m.eP,true,1,m.own.map fun x=>[.d (iD x)]⟩]
def aC.au (g b a:Nat) (m:aC):List VL.Obj:=m.az g b a m.text
theorem nk {g b a:Nat}{m:aC} (h:m.bB=false):m.au g b a=m.az g b a (.d (aB m.t)):=by
 unfold aC.au aC.text;rw[if_neg (by rw[h];exact Xe)]
theorem kZ {g b a:Nat}{m:aC} (h:m.bB=true):m.au g b a=m.az g b a (.so 2 m.eP 0 m.t.length):=by
 unfold aC.au aC.text;rw[if_pos h]
def aC.step (m:aC):aC:=if m.steps<m.fuel then { m with steps:=m.steps+1 } else { m with aK:=true }
theorem ta (l:List (Option aA)) (b a n:Nat):((l.map (GV b a)).all fun e=>e.all (ao n))=true:=by
 rw[Xn]
 intro e he
 obtain⟨p,_,rfl⟩:=List.mem_map.1 he
 cases p <;> rfl
theorem iE (m:aC):ao 3 m.text=true:=by
 unfold aC.text
 split <;> rfl
theorem cy (m:aC) (b a:Nat) (T:V) (h:ao 3 T=true):(ao 3 T&&(((m.cO.map (GV b a)).all fun e=>e.all (ao 3))&&(m.own.map fun x=>[V.d (D.sc (.int .i64 x))]).all fun e=>e.all (ao 3)))=true:=by
 rw[h,ta]
 exact nD m.own iD 3
theorem fg (g b a:Nat) (m:aC) (T:V) (n:Nat) (hn:3≤n) (h:ao n T=true):(m.az g b a T).all (cU n)=true:=by
 unfold aC.az
 simp only[List.all_cons,List.all_nil,XT,cU,WR,WS,WU,WV,h,i64,bV,ta,iD,bD,nD]
 simp [ao]
 omega
theorem an (m:aC) (b a:Nat):(ao 3 m.text&&(((m.cO.map (GV b a)).all fun e=>e.all (ao 3))&&(m.own.map fun x=>[V.d (D.sc (.int .i64 x))]).all fun e=>e.all (ao 3)))=true:=by
 rw[iE,ta]
 exact nD m.own iD 3
theorem cI (g b a:Nat) (m:aC) (h0:0≤m.steps) (h1:m.steps≤10000000000000) :
  av prog 96 [.pp 0 g 0 0 b a] (m.au g b a) fun v s=>v=bV (decide (m.steps<m.fuel))∧s=m.step.au g b a:=by
 have w1:IntKind.i64.wrap (m.steps+1)=m.steps+1:=bU _ (by omega)
 unfold aC.au aC.az
 generalize hT:m.text=T
 by_cases c:m.steps<m.fuel
 ·have lW:¬m.fuel≤m.steps:=by omega
  have hs:m.step={ m with steps:=m.steps+1 }:=by rw[aC.step,if_pos c]
  rw[hs]
  refine aw func96 rfl ntmps96 results96 rfl 3 5 (by simp) (by simp) ?_
  simp only[zX,simprocAttr,i64,bV,w1,Re.ae,iD,bD]
  refine aq mix [] [] (by rfl) ?_
  simp only[zX,simprocAttr,i64,bV,w1,c,lW,Re.ae,iD,bD]
  subst hT
  exact⟨an m b a,rfl⟩
 ·have lW:m.fuel≤m.steps:=by omega
  have hs:m.step={ m with aK:=true }:=by rw[aC.step,if_neg c]
  rw[hs]
  refine aw func96 rfl ntmps96 results96 rfl 3 5 (by simp) (by simp) ?_
  simp only[zX,simprocAttr,i64,bV,w1,Re.ae,iD,bD]
  refine aq mix [] [] (by rfl) ?_
  simp only[zX,simprocAttr,i64,bV,w1,c,lW,Re.ae,iD,bD]
  subst hT
  exact⟨an m b a,rfl⟩
abbrev Rs:=aC×aA×Bool
def aC.lit (m:aC):aE→Option Re
 |.nil=>none
 |.root=>some m.p.re
 |.el re=>some re
def aC.push (m:aC) (p:aA):aC:={ m with cO:=m.cO.take m.top++[some p],top:=m.top+1,gen:=m.gen+1,cr:=max m.cr ((m.top+1:Nat):Int) }
def aC.clear (m:aC) (base:Nat):aC:={ m with cO:=m.cO.take base++(List.replicate (m.top-base) none++m.cO.drop m.top),top:=base }
def aC.pop (m:aC):aC:={ m with cO:=m.cO.set (m.top-1) none,top:=m.top-1 }
def jw (p:aA) (kind:Int) (re:aE) (n at_:Int):aA:={ p with todo:=.mk kind re n at_ p.todo }
def aA.goals (p:aA):Bool:=match p.todo with
 |.nil=>false
 |.mk _ _ _ _ _=>true
def eH (kids:List Re) (next:aG):aG:=kids.foldr (fun k nx=>.mk 0 (.el k) 0 0 nx) next
def aC.same (m:aC):Prop:=m.bB=true→m.own=m.t
instance (m:aC):Decidable m.same:=by unfold aC.same;infer_instance
def jx (t:List Int) (re:Re) (p:aA):aA×Bool :=
 if p.at_<t.length∧nn re.set (fX t p.at_)=true then ({ p with at_:=p.at_+1 },true) else (.zero,false)
def CL (t:List Int) (re:Re) (p:aA):Option (aA×Bool) :=
 if re.n<1∨(p.ak.length:Int)<re.n then none else
 let x:=p.ak.getD (re.n-1).toNat (-1,-1)
 if x.1 < -1000000∨x.2 < -1000000∨1000000<x.1∨1000000<x.2 then none
 else if x.1<0∨(t.length:Int)-p.at_<x.2-x.1 then some (.zero,false)
 else if x.2<x.1∨(t.length:Int)<x.2 then none
 else if cW t x.1 p.at_ (x.2-x.1).toNat=true then some ({ p with at_:=p.at_+(x.2-x.1) },true) else some (.zero,false)
abbrev Rec:=aC→Nat→aA→Option Rs
def eS (rec:Rec) (m:aC) (p:aA):Option Rs:=match rec m m.top p with
 |none=>none
 |some (m',p',found)=>if m'.top<m.top∨m'.cO.length<m'.top then none else some (m'.clear m.top,p',found)
def iW (rec:Rec) (m:aC) (p:aA) (part:aG):Option Rs:=match eS rec m { p with todo:=part } with
 |none=>none
 |some (m',r,found)=>some (m',{ r with todo:=p.todo },found)
def fT (f:Int→aC→Option Rs) (neg:Bool) (p:aA) (last:Int):Nat→aC→Option Rs
 |0,m=>some (m,p,neg&&!m.aK)
 |j+1,m=>if m.aK=true then some (m,p,neg&&!m.aK) else match f (last+j) m with
  |none=>none
  |some (m',r,found)=>if found=true then (if neg=true then some (m',.zero,false) else some (m',{ p with ak:=r.ak },true)) else fT f neg p last j m'
def jR (op:Int) (kid:Re) (at_:Int):aG:=if op=8 then .mk 0 (.el kid) 0 0 (.mk 5 .nil 0 at_ .nil) else .mk 0 (.el kid) 0 0 .nil
def kb (rec:Rec) (m:aC) (re:Re) (kid:Re) (p:aA):Option Rs :=
 fT (fun k m=>eS rec m { at_:=k,ak:=p.ak,todo:=jR re.op kid p.at_ }) re.neg p (if re.op=8 then 0 else p.at_) (if re.op=8 then p.at_.toNat+1 else 1) m
def bq (rec:Rec) (m:aC) (r:aE) (p:aA):Option Rs:=match m.lit r with
 |none=>none
 |some re =>
  if 1000000000<re.set.length∨1000000000<re.kids.length then none
  else if re.op=4 then (if re.mode=2 then iW rec m p (.mk 2 r 0 0 .nil) else some (m,jw p 2 r 0 0,true))
  else if m.fuel≤m.steps then some (m.step,.zero,false)
  else
   let m:=m.step
   if re.op=1 then some (m,jx m.t re p)
   else if re.op=2 then some (m,{ p with todo:=eH re.kids p.todo },true)
   else if re.op=3 then some (m,jw p 1 r 0 0,true)
   else if re.op=5 then match re.kids with
    |[]=>none
    |kid::_=>some (m,jw (jw p 4 r 0 p.at_) 0 (.el kid) 0 0,true)
   else if re.op=6 then match CL m.t re p with
    |none=>none
    |some x=>some (m,x)
   else if re.op=7∨re.op=8 then match re.kids with
    |[]=>none
    |kid::_=>kb rec m re kid p
   else if re.op=9 then match re.kids with
    |[]=>none
    |kid::_=>iW rec m p (.mk 0 (.el kid) 0 0 .nil)
   else if re.op=10 then match re.kids with
    |yes::no::_=>if re.n<1∨(p.ak.length:Int)<re.n then none else some (m,jw p 0 (.el (if 0≤(p.ak.getD (re.n-1).toNat (-1,-1)).1 then yes else no)) 0 0,true)
    |_=>none
   else if re.op=11 then (if re.n<0∨5<re.n then none else some (m,p,bO re.n m.t p.at_))
   else some (m,p,true)
def jm (m:aC) (r:aE) (n:Int) (p:aA):Option Rs:=match m.lit r with
 |none=>none
 |some re=>match re.kids with
  |[]=>none
  |kid::_ =>
   if m.fuel≤m.steps then some (m.step,.zero,false)
   else
    let m:=m.step
    if n<re.mn then some (m,{ p with todo:=.mk 0 (.el kid) 0 0 (.mk 2 r (n+1) 0 p.todo) },true)
    else if 0≤re.mx∧re.mx≤n then some (m,p,true)
    else
     let more:aA:={ p with todo:=.mk 0 (.el kid) 0 0 (.mk 3 r (n+1) p.at_ p.todo) }
     if re.mode=1 then some (m.push more,p,true) else some (m.push p,more,true)
def aC.cn (m:aC) (p:aA):Prop:=(0≤m.steps∧m.steps≤10000000000000∧m.top≤m.cO.length∧m.top≤1200000000000)∧(0≤p.at_∧p.at_≤m.t.length∧p.ak.length≤1000000000)∧m.t.length≤1000000∧m.same
instance (m:aC) (p:aA):Decidable (m.cn p):=by unfold aC.cn;infer_instance
def gn (rec:Rec) (m:aC) (p:aA):Option Rs :=
 if ¬m.cn p then none else match p.todo with
 |.nil=>none
 |.mk kind r n at_ next =>
  let p:={ p with todo:=next }
  if kind=0 then bq rec m r p
  else if n<0∨10000000000000<n then none
  else if kind=1 then match m.lit r with
   |none=>none
   |some re=>if 1000000000<re.kids.length then none else match re.kids[n.toNat]? with
    |none=>none
    |some kid=>some (if n+1<re.kids.length then m.push (jw p 1 r (n+1) 0) else m,jw p 0 (.el kid) 0 0,true)
  else if kind=2 then jm m r n p
  else if kind=3 then (if p.at_=at_ then some (m,.zero,false) else some (m,jw p 2 r n 0,true))
  else if kind=4 then match m.lit r with
   |none=>none
   |some re=>if re.n<1∨(p.ak.length:Int)<re.n then none else some (m,{ p with ak:=p.ak.set (re.n-1).toNat (at_,p.at_) },true)
  else if kind=5 then some (m,p,decide (p.at_=at_))
  else none
def bh:Nat→Bool→aC→Nat→aA→Bool→Option Rs
 |0,_,_,_,_,_=>none
 |k+1,out,m,base,p,alive =>
  if out=true∧m.aK=true then some (m,.zero,false)
  else if alive=true∧p.goals=true then match gn (fun m base p=>bh k true m base p true) m p with
   |none=>none
   |some (m',p',OY)=>bh k false m' base p' OY
  else if alive=true then some (m,p,!m.aK)
  else if m.top=base then some (m,.zero,false)
  else if m.top=0∨m.cO.length<m.top∨1200000000000<m.top then none
  else match m.cO[m.top-1]? with
   |none=>none
   |some none=>none
   |some (some last)=>bh k true m.pop base last true
def aA.v (b a:Nat) (p:aA):V:=.ag ((p.cells b a).map .d)
theorem zM:type_of% (And.intro @i64.eq_1<|And.intro @bV.eq_1<|And.intro @iD.eq_1<|And.intro @bD.eq_1<|And.intro @List.cons_append.{0}<|And.intro @List.nil_append.{0}<|And.intro @List.map_cons.{0,0}<|And.intro @List.map_nil.{0,0}<|And.intro @aA.v.eq_1 @aA.cells.eq_1):=(And.intro @i64.eq_1<|And.intro @bV.eq_1<|And.intro @iD.eq_1<|And.intro @bD.eq_1<|And.intro @List.cons_append.{0}<|And.intro @List.nil_append.{0}<|And.intro @List.map_cons.{0,0}<|And.intro @List.map_nil.{0,0}<|And.intro @aA.v.eq_1 @aA.cells.eq_1)
def aJ (b a:Nat) (p:aA) (x:Bool):V:=.tu [p.v b a,bV x]
theorem qM (g b a:Nat) (m:aC) (p:aA) (h0:m.top≤m.cO.length) (h1:m.top≤1200000000000) :
  av prog 73 [.pp 0 g 0 0 b a,p.v b a] (m.au g b a) fun v s=>v=.tu []∧s=(m.push p).au g b a:=by
 unfold aC.au aC.az
 refine aw func73 rfl ntmps73 results73 rfl 3 11 (by simp) (by simp) ?_
 simp only[zX,simprocAttr,aA.v,aA.cells,WU,WV,i64,bV,Re.ae,iD,bD]
 refine aq mix [] [(2,[0],[]),(3,[0],[]),(4,[0],[]),(8,[1],[1]),(9,[0],[]),(10,[0],[]),(11,[0],[0])] (by rfl) ?_
 simp only[zX,simprocAttr,i64,bV,Re.ae,iD,bD]
 refine⟨rfl,by simp,⟨by omega,by omega⟩,?_⟩
 refine aq mix [] [(2,[0],[]),(3,[0],[]),(4,[0],[]),(6,[0],[]),(7,[0],[]),(8,[0],[]),(11,[0],[]),(12,[0],[]),(13,[0],[0])] (by rfl) ?_
 simp only[zX,simprocAttr,i64,bV,Re.ae,iD,bD]
 have e:List.take m.top (m.cO.map (GV b a))++[[V.d (D.sc (Value.int IntKind.i64 p.at_)),V.d (bH p.ak),V.d (aG.d b a p.todo)]]=(m.push p).cO.map (GV b a):=by
  simp only[aC.push,XC,XR];rfl
 rw[e]
 exact⟨an (m.push p) b a,rfl⟩
theorem Rb {o:Int} (h:o=1):decide (o=1)=true∧decide (o=2)=false∧decide (o=3)=false∧decide (o=4)=false∧decide (o=5)=false∧decide (o=6)=false∧decide (o=7)=false∧decide (o=8)=false∧decide (o=9)=false∧decide (o=10)=false∧decide (o=11)=false:=by subst h;decide
theorem QW {o:Int} (h:o=2):decide (o=1)=false∧decide (o=2)=true∧decide (o=3)=false∧decide (o=4)=false∧decide (o=5)=false∧decide (o=6)=false∧decide (o=7)=false∧decide (o=8)=false∧decide (o=9)=false∧decide (o=10)=false∧decide (o=11)=false:=by subst h;decide
theorem QZ {o:Int} (h:o=3):decide (o=1)=false∧decide (o=2)=false∧decide (o=3)=true∧decide (o=4)=false∧decide (o=5)=false∧decide (o=6)=false∧decide (o=7)=false∧decide (o=8)=false∧decide (o=9)=false∧decide (o=10)=false∧decide (o=11)=false:=by subst h;decide
theorem Vq {o:Int} (h:o=4):decide (o=1)=false∧decide (o=2)=false∧decide (o=3)=false∧decide (o=4)=true∧decide (o=5)=false∧decide (o=6)=false∧decide (o=7)=false∧decide (o=8)=false∧decide (o=9)=false∧decide (o=10)=false∧decide (o=11)=false:=by subst h;decide
theorem QU {o:Int} (h:o=5):decide (o=1)=false∧decide (o=2)=false∧decide (o=3)=false∧decide (o=4)=false∧decide (o=5)=true∧decide (o=6)=false∧decide (o=7)=false∧decide (o=8)=false∧decide (o=9)=false∧decide (o=10)=false∧decide (o=11)=false:=by subst h;decide
theorem P3 {o:Int} (h:o=6):decide (o=1)=false∧decide (o=2)=false∧decide (o=3)=false∧decide (o=4)=false∧decide (o=5)=false∧decide (o=6)=true∧decide (o=7)=false∧decide (o=8)=false∧decide (o=9)=false∧decide (o=10)=false∧decide (o=11)=false:=by subst h;decide
theorem Qy {o:Int} (h:o=7):decide (o=1)=false∧decide (o=2)=false∧decide (o=3)=false∧decide (o=4)=false∧decide (o=5)=false∧decide (o=6)=false∧decide (o=7)=true∧decide (o=8)=false∧decide (o=9)=false∧decide (o=10)=false∧decide (o=11)=false:=by subst h;decide
theorem Ql {o:Int} (h:o=8):decide (o=1)=false∧decide (o=2)=false∧decide (o=3)=false∧decide (o=4)=false∧decide (o=5)=false∧decide (o=6)=false∧decide (o=7)=false∧decide (o=8)=true∧decide (o=9)=false∧decide (o=10)=false∧decide (o=11)=false:=by subst h;decide
theorem P1 {o:Int} (h:o=9):decide (o=1)=false∧decide (o=2)=false∧decide (o=3)=false∧decide (o=4)=false∧decide (o=5)=false∧decide (o=6)=false∧decide (o=7)=false∧decide (o=8)=false∧decide (o=9)=true∧decide (o=10)=false∧decide (o=11)=false:=by subst h;decide
theorem NM {o:Int} (h:o=10):decide (o=1)=false∧decide (o=2)=false∧decide (o=3)=false∧decide (o=4)=false∧decide (o=5)=false∧decide (o=6)=false∧decide (o=7)=false∧decide (o=8)=false∧decide (o=9)=false∧decide (o=10)=true∧decide (o=11)=false:=by subst h;decide
theorem Nv {o:Int} (h:o=11):decide (o=1)=false∧decide (o=2)=false∧decide (o=3)=false∧decide (o=4)=false∧decide (o=5)=false∧decide (o=6)=false∧decide (o=7)=false∧decide (o=8)=false∧decide (o=9)=false∧decide (o=10)=false∧decide (o=11)=true:=by subst h;decide
theorem Ge {t:List Int}{i:Int} (h0:0≤i) (h1:i<t.length):(t.map fun x=>[V.d (D.sc (Value.int IntKind.i64 x))])[i.toNat]?=some [V.d (D.sc (Value.int IntKind.i64 (fX t i)))]:=by
 rw[Xd,iA h0 h1];rfl
theorem wF {l:List (Int×Int)}{x:Int}{y:Int×Int}{i:Nat} (hy:l[i]?=some y) (h1:y.1≤x) (h2:x≤y.2):nn l x=true:=by
 unfold nn;rw[List.any_eq_true];exact⟨y,W6 hy,by rw[decide_eq_true h1,decide_eq_true h2];rfl⟩
theorem mO {l:List (Int×Int)}{x:Int}{y:Int×Int}{i:Nat} (hy:l[i]?=some y) (h:nn (l.take i) x=false) (hn:¬(y.1≤x∧x≤y.2)):nn (l.take (i+1)) x=false:=by
 rw[dZ hy]
 unfold nn at h ⊢
 rw[List.any_append,h]
 have:(decide (y.1≤x)&&decide (x≤y.2))=false:=by
  rw[Xz];intro hc
  simp only[W7,decide_eq_true_eq]at hc
  exact hn hc
 simp [this]
theorem M0 (g b a:Nat) (m:aC) (r:aE) (re:Re) (p:aA) (hq:¬p.at_<m.t.length) :
  av prog 97 [.pp 0 g 0 0 b a,.d (r.d b a),p.v b a] (m.au g b a) fun v s=>v=aJ b a (jx m.t re p).1 (jx m.t re p).2∧s=m.au g b a:=by
 have hr:jx m.t re p=(.zero,false):=by rw[jx,if_neg (fun h=>hq h.1)]
 rw[hr]
 have EM:(m.t.length:Int)≤p.at_:=by omega
 cases hT:m.bB with
 |true =>
  have hM:=cy m b a (.so 2 m.eP 0 m.t.length) rfl
  rw[kZ hT];unfold aC.az
  refine aw func97 rfl ntmps97 results97 rfl 3 15032387047 (by simp) (by simp) ?_
  simp only[zX,simprocAttr,zM,Re.ae]
  refine aq mix [] [(3,[0],[]),(4,[0],[]),(5,[0],[]),(6,[2],[]),(0,[3],[]),(1,[3],[])] (by rfl) ?_
  simp only[zX,simprocAttr,zM,EM,ge_iff_le,Re.ae]
  exact⟨hM,rfl⟩
 |false =>
  have hM:=cy m b a (.d (aB m.t)) rfl
  rw[nk hT];unfold aC.az
  simp only[aB]at hM ⊢
  refine aw func97 rfl ntmps97 results97 rfl 3 15032387047 (by simp) (by simp) ?_
  simp only[zX,simprocAttr,zM,Re.ae]
  refine aq mix [] [(3,[0],[]),(4,[0],[]),(5,[0],[]),(6,[2],[]),(0,[3],[]),(1,[3],[])] (by rfl) ?_
  simp only[zX,simprocAttr,zM,EM,ge_iff_le,Re.ae]
  exact⟨hM,rfl⟩
theorem Lb (g b a:Nat) (m:aC) (re:Re) (p:aA) (cC:re.set.length≤1000000000) (hp:0≤p.at_) (hq:p.at_<m.t.length) (ht:m.t.length≤1000000) :
  av prog 97 [.pp 0 g 0 0 b a,.d ((aE.el re).d b a),p.v b a] (m.az g b a (.d (aB m.t))) fun v s=>v=aJ b a (jx m.t re p).1 (jx m.t re p).2∧s=m.az g b a (.d (aB m.t)):=by
 have hr:jx m.t re p=if nn re.set (fX m.t p.at_)=true then ({ p with at_:=p.at_+1 },true) else (.zero,false):=by
  rw[jx];simp only[hq,true_and]
 rw[hr]
 have EM:¬(m.t.length:Int)≤p.at_:=by omega
 have w1:IntKind.i64.wrap (p.at_+1)=p.at_+1:=bU _ (by omega)
 have hM:=cy m b a (.d (aB m.t)) rfl
 have hg:=iA hp hq
 unfold aC.az;simp only[aB]
 refine aw func97 rfl ntmps97 results97 rfl 3 15032387047 (by simp) (by simp) ?_
 simp only[zX,simprocAttr,zM,Re.ae]
 refine aq mix [] [(3,[0],[]),(4,[0],[]),(5,[0],[]),(6,[2],[]),(0,[3],[]),(1,[3],[])] (by rfl) ?_
 simp only[zX,simprocAttr,zM,EM,ge_iff_le,Re.ae]
 refine aq mix [] [(1,[0],[]),(2,[0],[]),(3,[0],[]),(4,[3],[]),(5,[3],[]),(6,[2],[]),(7,[2],[])] (by rfl) ?_
 simp only[zX,simprocAttr,zM,Re.ae,aE.d,hp,hq,hg,Xi]
 refine aX (fun n e s=>∃i:Nat,n=re.set.length-i∧i≤re.set.length∧e 0=.pp 0 g 0 0 b a∧e 5=.rf 3 0 0 0∧e 6=.rf 4 0 0 0∧e 8=i64 (fX m.t p.at_)∧e 31=.d (.sl (re.set.map aT))∧e 32=i64 re.set.length∧e 33=i64 i ∧
   s=m.az g b a (.d (aB m.t))++[⟨0,true,3,[(p.cells b a).map .d]⟩,⟨0,true,3,[[.d (iD 0),.fu [],.d (.sc (.pointer none))]]⟩]∧nn (re.set.take i) (fX m.t p.at_)=false)
  ⟨_,_,_,dw.refl,0,rfl,by omega,rfl,rfl,rfl,rfl,rfl,rfl,rfl,?_,rfl⟩ ?_
 ·rfl
 rintro n e s ⟨i,rfl,hi,h0,h5,h6,h8,kB,ie,qK,rfl,jk⟩
 unfold aC.az;simp only[aB]
 rcases Xw i re.set.length with aS|lW
 ·obtain⟨y,hy⟩:∃y,re.set[i]?=some y:=⟨_,WZ aS⟩
  by_cases c1:y.1≤fX m.t p.at_
  ·by_cases c2:fX m.t p.at_≤y.2
   ·rw[wF hy c1 c2]
    simp only[zX,simprocAttr,zM,Re.ae,h0,h5,h6,h8,kB,ie,qK,aS,hy,aT,c1,c2,w1]
    exact⟨hM,rfl⟩
   ·simp only[zX,simprocAttr,zM,Re.ae,h0,h5,h6,h8,kB,ie,qK,aS,hy,aT,c1,c2]
    refine⟨re.set.length-(i+1),_,_,by omega,dw.cut (s':=m.az g b a (.d (aB m.t))++[⟨0,true,3,[(p.cells b a).map .d]⟩,⟨0,true,3,[[.d (iD 0),.fu [],.d (.sc (.pointer none))]]⟩]) 5 (by omega) rfl ?_ [0,5,6,8,31,32,33] ?_,i+1,rfl,aS,?_,?_,?_,?_,?_,?_,?_,rfl,mO hy jk (fun h=>c2 h.2)⟩ <;> (try simp only[zU,Nat.reduceBEq,Nat.reduceShiftRight,Nat.reduceMod,Nat.reduceEqDiff,reduceIte])
    ·rw[XI,fg g b a m _ 5 (by omega) rfl];rfl
    ·simp [bW,ba,ao,i64,h0,h5,h6,h8,kB,ie,qK]
    ·exact h0
    ·exact h5
    ·exact h6
    ·exact h8
    ·exact kB
    ·exact ie
    ·rw[bU _ (by omega)];rfl
  ·simp only[zX,simprocAttr,zM,Re.ae,h0,h5,h6,h8,kB,ie,qK,aS,hy,aT,c1]
   refine⟨re.set.length-(i+1),_,_,by omega,dw.cut (s':=m.az g b a (.d (aB m.t))++[⟨0,true,3,[(p.cells b a).map .d]⟩,⟨0,true,3,[[.d (iD 0),.fu [],.d (.sc (.pointer none))]]⟩]) 5 (by omega) rfl ?_ [0,5,6,8,31,32,33] ?_,i+1,rfl,aS,?_,?_,?_,?_,?_,?_,?_,rfl,mO hy jk (fun h=>c1 h.1)⟩ <;> (try simp only[zU,Nat.reduceBEq,Nat.reduceShiftRight,Nat.reduceMod,Nat.reduceEqDiff,reduceIte])
   ·rw[XI,fg g b a m _ 5 (by omega) rfl];rfl
   ·simp [bW,ba,ao,i64,h0,h5,h6,h8,kB,ie,qK]
   ·exact h0
   ·exact h5
   ·exact h6
   ·exact h8
   ·exact kB
   ·exact ie
   ·rw[bU _ (by omega)];rfl
 ·have iQ:i=re.set.length:=by omega
  subst iQ
  rw[XA]at jk
  rw[jk]
  simp only[zX,simprocAttr,zM,Re.ae,h0,h5,h6,h8,kB,ie,qK,XP,W2,if_false]
  exact⟨hM,rfl⟩
theorem Il (g b a:Nat) (m:aC) (re:Re) (p:aA) (cC:re.set.length≤1000000000) (hp:0≤p.at_) (hq:p.at_<m.t.length) (ht:m.t.length≤1000000) (hs:m.own=m.t) :
  av prog 97 [.pp 0 g 0 0 b a,.d ((aE.el re).d b a),p.v b a] (m.az g b a (.so 2 m.eP 0 m.t.length)) fun v s=>v=aJ b a (jx m.t re p).1 (jx m.t re p).2∧s=m.az g b a (.so 2 m.eP 0 m.t.length):=by
 have hr:jx m.t re p=if nn re.set (fX m.t p.at_)=true then ({ p with at_:=p.at_+1 },true) else (.zero,false):=by
  rw[jx];simp only[hq,true_and]
 rw[hr]
 have EM:¬(m.t.length:Int)≤p.at_:=by omega
 have w1:IntKind.i64.wrap (p.at_+1)=p.at_+1:=bU _ (by omega)
 have hM:=cy m b a (.so 2 m.eP 0 m.t.length) rfl
 have hg:=Ge hp hq
 have RR:m.own.length=m.t.length:=by rw[hs]
 have EV:(m.own.map fun x=>[V.d (D.sc (Value.int IntKind.i64 x))])[p.at_.toNat]?=some [V.d (D.sc (Value.int IntKind.i64 (fX m.t p.at_)))]:=by rw[hs];exact hg
 unfold aC.az
 refine aw func97 rfl ntmps97 results97 rfl 3 15032387047 (by simp) (by simp) ?_
 simp only[zX,simprocAttr,zM,Re.ae]
 refine aq mix [] [(3,[0],[]),(4,[0],[]),(5,[0],[]),(6,[2],[]),(0,[3],[]),(1,[3],[])] (by rfl) ?_
 simp only[zX,simprocAttr,zM,EM,ge_iff_le,Re.ae]
 refine aq mix [] [(1,[0],[]),(2,[0],[]),(3,[0],[]),(4,[3],[]),(5,[3],[]),(6,[2],[]),(7,[2],[])] (by rfl) ?_
 simp only[zX,simprocAttr,zM,Re.ae,aE.d,hp,hq,EV,Xi]
 refine aX (fun n e s=>∃i:Nat,n=re.set.length-i∧i≤re.set.length∧e 0=.pp 0 g 0 0 b a∧e 5=.rf 3 0 0 0∧e 6=.rf 4 0 0 0∧e 8=i64 (fX m.t p.at_)∧e 31=.d (.sl (re.set.map aT))∧e 32=i64 re.set.length∧e 33=i64 i ∧
   s=m.az g b a (.so 2 m.eP 0 m.t.length)++[⟨0,true,3,[(p.cells b a).map .d]⟩,⟨0,true,3,[[.d (iD 0),.fu [],.d (.sc (.pointer none))]]⟩]∧nn (re.set.take i) (fX m.t p.at_)=false)
  ⟨_,_,_,dw.refl,0,rfl,by omega,rfl,rfl,rfl,rfl,rfl,rfl,rfl,?_,rfl⟩ ?_
 ·rfl
 rintro n e s ⟨i,rfl,hi,h0,h5,h6,h8,kB,ie,qK,rfl,jk⟩
 unfold aC.az
 rcases Xw i re.set.length with aS|lW
 ·obtain⟨y,hy⟩:∃y,re.set[i]?=some y:=⟨_,WZ aS⟩
  by_cases c1:y.1≤fX m.t p.at_
  ·by_cases c2:fX m.t p.at_≤y.2
   ·rw[wF hy c1 c2]
    simp only[zX,simprocAttr,zM,Re.ae,h0,h5,h6,h8,kB,ie,qK,aS,hy,aT,c1,c2,w1]
    exact⟨hM,rfl⟩
   ·simp only[zX,simprocAttr,zM,Re.ae,h0,h5,h6,h8,kB,ie,qK,aS,hy,aT,c1,c2]
    refine⟨re.set.length-(i+1),_,_,by omega,dw.cut (s':=m.az g b a (.so 2 m.eP 0 m.t.length)++[⟨0,true,3,[(p.cells b a).map .d]⟩,⟨0,true,3,[[.d (iD 0),.fu [],.d (.sc (.pointer none))]]⟩]) 5 (by omega) rfl ?_ [0,5,6,8,31,32,33] ?_,i+1,rfl,aS,?_,?_,?_,?_,?_,?_,?_,rfl,mO hy jk (fun h=>c2 h.2)⟩ <;> (try simp only[zU,Nat.reduceBEq,Nat.reduceShiftRight,Nat.reduceMod,Nat.reduceEqDiff,reduceIte])
    ·rw[XI,fg g b a m _ 5 (by omega) rfl];rfl
    ·simp [bW,ba,ao,i64,h0,h5,h6,h8,kB,ie,qK]
    ·exact h0
    ·exact h5
    ·exact h6
    ·exact h8
    ·exact kB
    ·exact ie
    ·rw[bU _ (by omega)];rfl
  ·simp only[zX,simprocAttr,zM,Re.ae,h0,h5,h6,h8,kB,ie,qK,aS,hy,aT,c1]
   refine⟨re.set.length-(i+1),_,_,by omega,dw.cut (s':=m.az g b a (.so 2 m.eP 0 m.t.length)++[⟨0,true,3,[(p.cells b a).map .d]⟩,⟨0,true,3,[[.d (iD 0),.fu [],.d (.sc (.pointer none))]]⟩]) 5 (by omega) rfl ?_ [0,5,6,8,31,32,33] ?_,i+1,rfl,aS,?_,?_,?_,?_,?_,?_,?_,rfl,mO hy jk (fun h=>c1 h.1)⟩ <;> (try simp only[zU,Nat.reduceBEq,Nat.reduceShiftRight,Nat.reduceMod,Nat.reduceEqDiff,reduceIte])
   ·rw[XI,fg g b a m _ 5 (by omega) rfl];rfl
   ·simp [bW,ba,ao,i64,h0,h5,h6,h8,kB,ie,qK]
   ·exact h0
   ·exact h5
   ·exact h6
   ·exact h8
   ·exact kB
   ·exact ie
   ·rw[bU _ (by omega)];rfl
 ·have iQ:i=re.set.length:=by omega
  subst iQ
  rw[XA]at jk
  rw[jk]
  simp only[zX,simprocAttr,zM,Re.ae,h0,h5,h6,h8,kB,ie,qK,XP,W2,if_false]
  exact⟨hM,rfl⟩
theorem EG (g b a:Nat) (m:aC) (p:aA) (cC:m.p.re.set.length≤1000000000) (hp:0≤p.at_) (hq:p.at_<m.t.length) (ht:m.t.length≤1000000) :
  av prog 97 [.pp 0 g 0 0 b a,.d ((aE.root).d b a),p.v b a] (m.az g b a (.d (aB m.t))) fun v s=>v=aJ b a (jx m.t m.p.re p).1 (jx m.t m.p.re p).2∧s=m.az g b a (.d (aB m.t)):=by
 have hr:jx m.t m.p.re p=if nn m.p.re.set (fX m.t p.at_)=true then ({ p with at_:=p.at_+1 },true) else (.zero,false):=by
  rw[jx];simp only[hq,true_and]
 rw[hr]
 have EM:¬(m.t.length:Int)≤p.at_:=by omega
 have w1:IntKind.i64.wrap (p.at_+1)=p.at_+1:=bU _ (by omega)
 have hM:=cy m b a (.d (aB m.t)) rfl
 have hg:=iA hp hq
 unfold aC.az;simp only[aB]
 refine aw func97 rfl ntmps97 results97 rfl 3 15032387047 (by simp) (by simp) ?_
 simp only[zX,simprocAttr,zM,Re.ae]
 refine aq mix [] [(3,[0],[]),(4,[0],[]),(5,[0],[]),(6,[2],[]),(0,[3],[]),(1,[3],[])] (by rfl) ?_
 simp only[zX,simprocAttr,zM,EM,ge_iff_le,Re.ae]
 refine aq mix [] [(1,[0],[]),(2,[0],[]),(3,[0],[]),(4,[3],[]),(5,[3],[]),(6,[2],[]),(7,[2],[])] (by rfl) ?_
 simp only[zX,simprocAttr,zM,Re.ae,aE.d,hp,hq,hg,Xi]
 refine aX (fun n e s=>∃i:Nat,n=m.p.re.set.length-i∧i≤m.p.re.set.length∧e 0=.pp 0 g 0 0 b a∧e 5=.rf 3 0 0 0∧e 6=.rf 4 0 0 0∧e 8=i64 (fX m.t p.at_)∧e 31=.d (.sl (m.p.re.set.map aT))∧e 32=i64 m.p.re.set.length∧e 33=i64 i ∧
   s=m.az g b a (.d (aB m.t))++[⟨0,true,3,[(p.cells b a).map .d]⟩,⟨0,true,3,[[.d (iD 0),.fu [],.d (.sc (.pointer none))]]⟩]∧nn (m.p.re.set.take i) (fX m.t p.at_)=false)
  ⟨_,_,_,dw.refl,0,rfl,by omega,rfl,rfl,rfl,rfl,rfl,rfl,rfl,?_,rfl⟩ ?_
 ·rfl
 rintro n e s ⟨i,rfl,hi,h0,h5,h6,h8,kB,ie,qK,rfl,jk⟩
 unfold aC.az;simp only[aB]
 rcases Xw i m.p.re.set.length with aS|lW
 ·obtain⟨y,hy⟩:∃y,m.p.re.set[i]?=some y:=⟨_,WZ aS⟩
  by_cases c1:y.1≤fX m.t p.at_
  ·by_cases c2:fX m.t p.at_≤y.2
   ·rw[wF hy c1 c2]
    simp only[zX,simprocAttr,zM,Re.ae,h0,h5,h6,h8,kB,ie,qK,aS,hy,aT,c1,c2,w1]
    exact⟨hM,rfl⟩
   ·simp only[zX,simprocAttr,zM,Re.ae,h0,h5,h6,h8,kB,ie,qK,aS,hy,aT,c1,c2]
    refine⟨m.p.re.set.length-(i+1),_,_,by omega,dw.cut (s':=m.az g b a (.d (aB m.t))++[⟨0,true,3,[(p.cells b a).map .d]⟩,⟨0,true,3,[[.d (iD 0),.fu [],.d (.sc (.pointer none))]]⟩]) 5 (by omega) rfl ?_ [0,5,6,8,31,32,33] ?_,i+1,rfl,aS,?_,?_,?_,?_,?_,?_,?_,rfl,mO hy jk (fun h=>c2 h.2)⟩ <;> (try simp only[zU,Nat.reduceBEq,Nat.reduceShiftRight,Nat.reduceMod,Nat.reduceEqDiff,reduceIte])
    ·rw[XI,fg g b a m _ 5 (by omega) rfl];rfl
    ·simp [bW,ba,ao,i64,h0,h5,h6,h8,kB,ie,qK]
    ·exact h0
    ·exact h5
    ·exact h6
    ·exact h8
    ·exact kB
    ·exact ie
    ·rw[bU _ (by omega)];rfl
  ·simp only[zX,simprocAttr,zM,Re.ae,h0,h5,h6,h8,kB,ie,qK,aS,hy,aT,c1]
   refine⟨m.p.re.set.length-(i+1),_,_,by omega,dw.cut (s':=m.az g b a (.d (aB m.t))++[⟨0,true,3,[(p.cells b a).map .d]⟩,⟨0,true,3,[[.d (iD 0),.fu [],.d (.sc (.pointer none))]]⟩]) 5 (by omega) rfl ?_ [0,5,6,8,31,32,33] ?_,i+1,rfl,aS,?_,?_,?_,?_,?_,?_,?_,rfl,mO hy jk (fun h=>c1 h.1)⟩ <;> (try simp only[zU,Nat.reduceBEq,Nat.reduceShiftRight,Nat.reduceMod,Nat.reduceEqDiff,reduceIte])
   ·rw[XI,fg g b a m _ 5 (by omega) rfl];rfl
   ·simp [bW,ba,ao,i64,h0,h5,h6,h8,kB,ie,qK]
   ·exact h0
   ·exact h5
   ·exact h6
   ·exact h8
   ·exact kB
   ·exact ie
   ·rw[bU _ (by omega)];rfl
 ·have iQ:i=m.p.re.set.length:=by omega
  subst iQ
  rw[XA]at jk
  rw[jk]
  simp only[zX,simprocAttr,zM,Re.ae,h0,h5,h6,h8,kB,ie,qK,XP,W2,if_false]
  exact⟨hM,rfl⟩
theorem Dm (g b a:Nat) (m:aC) (p:aA) (cC:m.p.re.set.length≤1000000000) (hp:0≤p.at_) (hq:p.at_<m.t.length) (ht:m.t.length≤1000000) (hs:m.own=m.t) :
  av prog 97 [.pp 0 g 0 0 b a,.d ((aE.root).d b a),p.v b a] (m.az g b a (.so 2 m.eP 0 m.t.length)) fun v s=>v=aJ b a (jx m.t m.p.re p).1 (jx m.t m.p.re p).2∧s=m.az g b a (.so 2 m.eP 0 m.t.length):=by
 have hr:jx m.t m.p.re p=if nn m.p.re.set (fX m.t p.at_)=true then ({ p with at_:=p.at_+1 },true) else (.zero,false):=by
  rw[jx];simp only[hq,true_and]
 rw[hr]
 have EM:¬(m.t.length:Int)≤p.at_:=by omega
 have w1:IntKind.i64.wrap (p.at_+1)=p.at_+1:=bU _ (by omega)
 have hM:=cy m b a (.so 2 m.eP 0 m.t.length) rfl
 have hg:=Ge hp hq
 have RR:m.own.length=m.t.length:=by rw[hs]
 have EV:(m.own.map fun x=>[V.d (D.sc (Value.int IntKind.i64 x))])[p.at_.toNat]?=some [V.d (D.sc (Value.int IntKind.i64 (fX m.t p.at_)))]:=by rw[hs];exact hg
 unfold aC.az
 refine aw func97 rfl ntmps97 results97 rfl 3 15032387047 (by simp) (by simp) ?_
 simp only[zX,simprocAttr,zM,Re.ae]
 refine aq mix [] [(3,[0],[]),(4,[0],[]),(5,[0],[]),(6,[2],[]),(0,[3],[]),(1,[3],[])] (by rfl) ?_
 simp only[zX,simprocAttr,zM,EM,ge_iff_le,Re.ae]
 refine aq mix [] [(1,[0],[]),(2,[0],[]),(3,[0],[]),(4,[3],[]),(5,[3],[]),(6,[2],[]),(7,[2],[])] (by rfl) ?_
 simp only[zX,simprocAttr,zM,Re.ae,aE.d,hp,hq,EV,Xi]
 refine aX (fun n e s=>∃i:Nat,n=m.p.re.set.length-i∧i≤m.p.re.set.length∧e 0=.pp 0 g 0 0 b a∧e 5=.rf 3 0 0 0∧e 6=.rf 4 0 0 0∧e 8=i64 (fX m.t p.at_)∧e 31=.d (.sl (m.p.re.set.map aT))∧e 32=i64 m.p.re.set.length∧e 33=i64 i ∧
   s=m.az g b a (.so 2 m.eP 0 m.t.length)++[⟨0,true,3,[(p.cells b a).map .d]⟩,⟨0,true,3,[[.d (iD 0),.fu [],.d (.sc (.pointer none))]]⟩]∧nn (m.p.re.set.take i) (fX m.t p.at_)=false)
  ⟨_,_,_,dw.refl,0,rfl,by omega,rfl,rfl,rfl,rfl,rfl,rfl,rfl,?_,rfl⟩ ?_
 ·rfl
 rintro n e s ⟨i,rfl,hi,h0,h5,h6,h8,kB,ie,qK,rfl,jk⟩
 unfold aC.az
 rcases Xw i m.p.re.set.length with aS|lW
 ·obtain⟨y,hy⟩:∃y,m.p.re.set[i]?=some y:=⟨_,WZ aS⟩
  by_cases c1:y.1≤fX m.t p.at_
  ·by_cases c2:fX m.t p.at_≤y.2
   ·rw[wF hy c1 c2]
    simp only[zX,simprocAttr,zM,Re.ae,h0,h5,h6,h8,kB,ie,qK,aS,hy,aT,c1,c2,w1]
    exact⟨hM,rfl⟩
   ·simp only[zX,simprocAttr,zM,Re.ae,h0,h5,h6,h8,kB,ie,qK,aS,hy,aT,c1,c2]
    refine⟨m.p.re.set.length-(i+1),_,_,by omega,dw.cut (s':=m.az g b a (.so 2 m.eP 0 m.t.length)++[⟨0,true,3,[(p.cells b a).map .d]⟩,⟨0,true,3,[[.d (iD 0),.fu [],.d (.sc (.pointer none))]]⟩]) 5 (by omega) rfl ?_ [0,5,6,8,31,32,33] ?_,i+1,rfl,aS,?_,?_,?_,?_,?_,?_,?_,rfl,mO hy jk (fun h=>c2 h.2)⟩ <;> (try simp only[zU,Nat.reduceBEq,Nat.reduceShiftRight,Nat.reduceMod,Nat.reduceEqDiff,reduceIte])
    ·rw[XI,fg g b a m _ 5 (by omega) rfl];rfl
    ·simp [bW,ba,ao,i64,h0,h5,h6,h8,kB,ie,qK]
    ·exact h0
    ·exact h5
    ·exact h6
    ·exact h8
    ·exact kB
    ·exact ie
    ·rw[bU _ (by omega)];rfl
  ·simp only[zX,simprocAttr,zM,Re.ae,h0,h5,h6,h8,kB,ie,qK,aS,hy,aT,c1]
   refine⟨m.p.re.set.length-(i+1),_,_,by omega,dw.cut (s':=m.az g b a (.so 2 m.eP 0 m.t.length)++[⟨0,true,3,[(p.cells b a).map .d]⟩,⟨0,true,3,[[.d (iD 0),.fu [],.d (.sc (.pointer none))]]⟩]) 5 (by omega) rfl ?_ [0,5,6,8,31,32,33] ?_,i+1,rfl,aS,?_,?_,?_,?_,?_,?_,?_,rfl,mO hy jk (fun h=>c1 h.1)⟩ <;> (try simp only[zU,Nat.reduceBEq,Nat.reduceShiftRight,Nat.reduceMod,Nat.reduceEqDiff,reduceIte])
   ·rw[XI,fg g b a m _ 5 (by omega) rfl];rfl
   ·simp [bW,ba,ao,i64,h0,h5,h6,h8,kB,ie,qK]
   ·exact h0
   ·exact h5
   ·exact h6
   ·exact h8
   ·exact kB
   ·exact ie
   ·rw[bU _ (by omega)];rfl
 ·have iQ:i=m.p.re.set.length:=by omega
  subst iQ
  rw[XA]at jk
  rw[jk]
  simp only[zX,simprocAttr,zM,Re.ae,h0,h5,h6,h8,kB,ie,qK,XP,W2,if_false]
  exact⟨hM,rfl⟩
theorem Gi (g b a:Nat) (m:aC) (r:aE) (re:Re) (p:aA) (hr:m.lit r=some re) (cC:re.set.length≤1000000000) (hp:0≤p.at_) (ht:m.t.length≤1000000) (hs:m.same) :
  av prog 97 [.pp 0 g 0 0 b a,.d (r.d b a),p.v b a] (m.au g b a) fun v s=>v=aJ b a (jx m.t re p).1 (jx m.t re p).2∧s=m.au g b a:=by
 by_cases hq:p.at_<m.t.length
 ·cases r with
  |nil=>cases hr
  |root =>
   cases hr
   cases hT:m.bB with
   |true=>rw[kZ hT];exact Dm g b a m p cC hp hq ht (hs hT)
   |false=>rw[nk hT];exact EG g b a m p cC hp hq ht
  |el pC =>
   cases hr
   cases hT:m.bB with
   |true=>rw[kZ hT];exact Il g b a m re p cC hp hq ht (hs hT)
   |false=>rw[nk hT];exact Lb g b a m re p cC hp hq ht
 ·exact M0 g b a m r re p hq
end Go.Proofs.YtmihcpdhcillaaaGreat
