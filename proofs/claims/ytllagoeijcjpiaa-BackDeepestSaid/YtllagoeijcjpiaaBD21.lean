/- A part of the proof (G21 G22 G23 G24 G25). -/
import Derived.Test.YtllagoeijcjpiaaBD2
import Derived.Test.YtllagoeijcjpiaaBD20
set_option linter.unusedSimpArgs false
set_option linter.unusedVariables false
set_option maxRecDepth 100000
set_option maxHeartbeats 80000000
namespace Go.Proofs.Ytllagoeijcjpiaa
open Go.VL Go.Proofs.Try
inductive aG where
 |nil
 |root
 |el (re:Re)
def aG.d (b a:Nat):aG→D
 |.nil=>.sc (.pointer none)
 |.root=>.sc (.pointer (some ⟨b,a,none⟩))
 |.el re=>.el re.cells
inductive aI where
 |nil
 |mk (kind:Int) (re:aG) (n at_:Int) (next:aI)
def aI.d (b a:Nat):aI→D
 |.nil=>.sc (.pointer none)
 |.mk kind re n at_ next=>.el [iD kind,re.d b a,iD n,iD at_,next.d b a]
theorem fO (b a:Nat) (r:aG) (next:aI):bI prog 53 [.d (r.d b a),.d (next.d b a)] (.d ((aI.mk 0 r 0 0 next).d b a)):=by
 refine av func53 rfl ntmps53 results53 rfl 0 19 (by simp) (by simp) ?_
 simp only[zX,simprocAttr,aI.d,iD]
structure ao where
 at_:Int
 ai:aq
 todo:aI
def ao.cells (b a:Nat) (p:ao):List D:=[iD p.at_,bd p.ai,p.todo.d b a]
def ao.zero:ao:=⟨0,[],.nil⟩
def F5 (b a:Nat):Option ao→List V
 |some p=>(p.cells b a).map V.d
 |none=>[.d (.sc (.int .i64 0)),.fu [],.d (.sc (.pointer none))]
structure aB where
 p:ic
 t:List Int
 bq:Bool
 own:List Int
 ew:Nat
 dY:List (Option ao)
 top:Nat
 gen:Nat
 aC:Int
 start:Int
 steps:Int
 fuel:Int
 aW:Bool
 ready:Bool
def aB.text (m:aB):V:=if m.bq=true then .so 2 m.ew 0 m.t.length else .d (ay m.t)
def aB.aA (g b a:Nat) (m:aB) (T:V):List VL.Obj :=
 [⟨g,true,19,[[.d (iD m.p.re.op),.d (.sl (m.p.re.set.map aM)),.d (.sl (m.p.re.kids.map Re.cells)),.d (iD m.p.re.mn),.d (iD m.p.re.mx),.d (iD m.p.re.mode),.d (iD m.p.re.n),.d (bD m.p.re.neg),i64 m.p.ai,bV m.p.bG,T,.so 2 m.ew 0 m.own.length,.so 1 m.gen 0 m.top,i64 m.aC,i64 m.start,i64 m.steps,i64 m.fuel,bV m.aW,bV m.ready]]⟩,
  ⟨m.gen,true,3,m.dY.map (F5 b a)⟩,⟨m.ew,true,1,m.own.map fun x=>[.d (iD x)]⟩]
def aB.aF (g b a:Nat) (m:aB):List VL.Obj:=m.aA g b a m.text
theorem mT {g b a:Nat}{m:aB} (h:m.bq=false):m.aF g b a=m.aA g b a (.d (ay m.t)):=by
 unfold aB.aF aB.text;rw[if_neg (by rw[h];exact V1)]
theorem lb {g b a:Nat}{m:aB} (h:m.bq=true):m.aF g b a=m.aA g b a (.so 2 m.ew 0 m.t.length):=by
 unfold aB.aF aB.text;rw[if_pos h]
def aB.step (m:aB):aB:=if m.steps<m.fuel then { m with steps:=m.steps+1 } else { m with aW:=true }
theorem sH (l:List (Option ao)) (b a n:Nat):((l.map (F5 b a)).all fun e=>e.all (ar n))=true:=by
 rw[VT]
 intro e he
 obtain⟨p,_,rfl⟩:=List.mem_map.1 he
 cases p <;> rfl
theorem gx (m:aB):ar 3 m.text=true:=by
 unfold aB.text
 split <;> rfl
theorem cB (m:aB) (b a:Nat) (T:V) (h:ar 3 T=true):(ar 3 T&&(((m.dY.map (F5 b a)).all fun e=>e.all (ar 3))&&(m.own.map fun x=>[V.d (D.sc (.int .i64 x))]).all fun e=>e.all (ar 3)))=true:=by
 rw[h,sH]
 exact mY m.own iD 3
theorem ff (g b a:Nat) (m:aB) (T:V) (n:Nat) (hn:3≤n) (h:ar n T=true):(m.aA g b a T).all (cP n)=true:=by
 unfold aB.aA
 simp only[List.all_cons,List.all_nil,Wy,cP,Vz,Vx,VP,VO,h,i64,bV,sH,iD,bD,mY]
 simp [ar]
 omega
theorem ak (m:aB) (b a:Nat):(ar 3 m.text&&(((m.dY.map (F5 b a)).all fun e=>e.all (ar 3))&&(m.own.map fun x=>[V.d (D.sc (.int .i64 x))]).all fun e=>e.all (ar 3)))=true:=by
 rw[gx,sH]
 exact mY m.own iD 3
theorem cR (g b a:Nat) (m:aB) (h0:0≤m.steps) (h1:m.steps≤10000000000000) :
  az prog 152 [.pp 0 g 0 0 b a] (m.aF g b a) fun v s=>v=bV (decide (m.steps<m.fuel))∧s=m.step.aF g b a:=by
 have w1:IntKind.i64.wrap (m.steps+1)=m.steps+1:=bR _ (by omega)
 unfold aB.aF aB.aA
 generalize hT:m.text=T
 by_cases c:m.steps<m.fuel
 ·have iR:¬m.fuel≤m.steps:=by omega
  have hs:m.step={ m with steps:=m.steps+1 }:=by rw[aB.step,if_pos c]
  rw[hs]
  refine av func152 rfl ntmps152 results152 rfl 3 5 (by simp) (by simp) ?_
  simp only[zX,simprocAttr,i64,bV,w1,Re.ae,iD,bD]
  refine an mix [] [] (by rfl) ?_
  simp only[zX,simprocAttr,i64,bV,w1,c,iR,Re.ae,iD,bD]
  subst hT
  exact⟨ak m b a,rfl⟩
 ·have iR:m.fuel≤m.steps:=by omega
  have hs:m.step={ m with aW:=true }:=by rw[aB.step,if_neg c]
  rw[hs]
  refine av func152 rfl ntmps152 results152 rfl 3 5 (by simp) (by simp) ?_
  simp only[zX,simprocAttr,i64,bV,w1,Re.ae,iD,bD]
  refine an mix [] [] (by rfl) ?_
  simp only[zX,simprocAttr,i64,bV,w1,c,iR,Re.ae,iD,bD]
  subst hT
  exact⟨ak m b a,rfl⟩
abbrev Rs:=aB×ao×Bool
def aB.lit (m:aB):aG→Option Re
 |.nil=>none
 |.root=>some m.p.re
 |.el re=>some re
def aB.push (m:aB) (p:ao):aB:={ m with dY:=m.dY.take m.top++[some p],top:=m.top+1,gen:=m.gen+1,aC:=max m.aC ((m.top+1:Nat):Int) }
def aB.clear (m:aB) (base:Nat):aB:={ m with dY:=m.dY.take base++(List.replicate (m.top-base) none++m.dY.drop m.top),top:=base }
def aB.pop (m:aB):aB:={ m with dY:=m.dY.set (m.top-1) none,top:=m.top-1 }
def iA (p:ao) (kind:Int) (re:aG) (n at_:Int):ao:={ p with todo:=.mk kind re n at_ p.todo }
def ao.goals (p:ao):Bool:=match p.todo with
 |.nil=>false
 |.mk _ _ _ _ _=>true
def eo (kids:List Re) (next:aI):aI:=kids.foldr (fun k nx=>.mk 0 (.el k) 0 0 nx) next
def aB.same (m:aB):Prop:=m.bq=true→m.own=m.t
instance (m:aB):Decidable m.same:=by unfold aB.same;infer_instance
def iW (t:List Int) (re:Re) (p:ao):ao×Bool :=
 if p.at_<t.length∧oQ re.set (eH t p.at_)=true then ({ p with at_:=p.at_+1 },true) else (.zero,false)
def tb (t:List Int) (re:Re) (p:ao):Option (ao×Bool) :=
 if re.n<1∨(p.ai.length:Int)<re.n then none else
 let x:=p.ai.getD (re.n-1).toNat (-1,-1)
 if x.1 < -1000000∨x.2 < -1000000∨1000000<x.1∨1000000<x.2 then none
 else if x.1<0∨(t.length:Int)-p.at_<x.2-x.1 then some (.zero,false)
 else if x.2<x.1∨(t.length:Int)<x.2 then none
 else if cO t x.1 p.at_ (x.2-x.1).toNat=true then some ({ p with at_:=p.at_+(x.2-x.1) },true) else some (.zero,false)
abbrev Rec:=aB→Nat→ao→Option Rs
def bY (rec:Rec) (m:aB) (p:ao):Option Rs:=match rec m m.top p with
 |none=>none
 |some (m',p',found)=>if m'.top<m.top∨m'.dY.length<m'.top then none else some (m'.clear m.top,p',found)
def fp (rec:Rec) (m:aB) (p:ao) (part:aI):Option Rs:=match bY rec m { p with todo:=part } with
 |none=>none
 |some (m',r,found)=>some (m',{ r with todo:=p.todo },found)
def dz (f:Int→aB→Option Rs) (neg:Bool) (p:ao) (last:Int):Nat→aB→Option Rs
 |0,m=>some (m,p,neg&&!m.aW)
 |j+1,m=>if m.aW=true then some (m,p,neg&&!m.aW) else match f (last+j) m with
  |none=>none
  |some (m',r,found)=>if found=true then (if neg=true then some (m',.zero,false) else some (m',{ p with ai:=r.ai },true)) else dz f neg p last j m'
def cw (op:Int) (kid:Re) (at_:Int):aI:=if op=8 then .mk 0 (.el kid) 0 0 (.mk 5 .nil 0 at_ .nil) else .mk 0 (.el kid) 0 0 .nil
def eX (rec:Rec) (m:aB) (re:Re) (kid:Re) (p:ao):Option Rs :=
 dz (fun k m=>bY rec m { at_:=k,ai:=p.ai,todo:=cw re.op kid p.at_ }) re.neg p (if re.op=8 then 0 else p.at_) (if re.op=8 then p.at_.toNat+1 else 1) m
def bj (rec:Rec) (m:aB) (r:aG) (p:ao):Option Rs:=match m.lit r with
 |none=>none
 |some re =>
  if 1000000000<re.set.length∨1000000000<re.kids.length then none
  else if re.op=4 then (if re.mode=2 then fp rec m p (.mk 2 r 0 0 .nil) else some (m,iA p 2 r 0 0,true))
  else if m.fuel≤m.steps then some (m.step,.zero,false)
  else
   let m:=m.step
   if re.op=1 then some (m,iW m.t re p)
   else if re.op=2 then some (m,{ p with todo:=eo re.kids p.todo },true)
   else if re.op=3 then some (m,iA p 1 r 0 0,true)
   else if re.op=5 then match re.kids with
    |[]=>none
    |kid::_=>some (m,iA (iA p 4 r 0 p.at_) 0 (.el kid) 0 0,true)
   else if re.op=6 then match tb m.t re p with
    |none=>none
    |some x=>some (m,x)
   else if re.op=7∨re.op=8 then match re.kids with
    |[]=>none
    |kid::_=>eX rec m re kid p
   else if re.op=9 then match re.kids with
    |[]=>none
    |kid::_=>fp rec m p (.mk 0 (.el kid) 0 0 .nil)
   else if re.op=10 then match re.kids with
    |yes::no::_=>if re.n<1∨(p.ai.length:Int)<re.n then none else some (m,iA p 0 (.el (if 0≤(p.ai.getD (re.n-1).toNat (-1,-1)).1 then yes else no)) 0 0,true)
    |_=>none
   else if re.op=11 then (if re.n<0∨5<re.n then none else some (m,p,bN re.n m.t p.at_))
   else some (m,p,true)
def fG (m:aB) (r:aG) (n:Int) (p:ao):Option Rs:=match m.lit r with
 |none=>none
 |some re=>match re.kids with
  |[]=>none
  |kid::_ =>
   if m.fuel≤m.steps then some (m.step,.zero,false)
   else
    let m:=m.step
    if n<re.mn then some (m,{ p with todo:=.mk 0 (.el kid) 0 0 (.mk 2 r (n+1) 0 p.todo) },true)
    else if 0≤re.mx∧re.mx≤n then some (m,p,true)
    else
     let more:ao:={ p with todo:=.mk 0 (.el kid) 0 0 (.mk 3 r (n+1) p.at_ p.todo) }
     if re.mode=1 then some (m.push more,p,true) else some (m.push p,more,true)
def aB.cX (m:aB) (p:ao):Prop:=(0≤m.steps∧m.steps≤10000000000000∧m.top≤m.dY.length∧m.top≤1200000000000)∧(0≤p.at_∧p.at_≤m.t.length∧p.ai.length≤1000000000)∧m.t.length≤1000000∧m.same
instance (m:aB) (p:ao):Decidable (m.cX p):=by unfold aB.cX;infer_instance
def fY (rec:Rec) (m:aB) (p:ao):Option Rs :=
 if ¬m.cX p then none else match p.todo with
 |.nil=>none
 |.mk kind r n at_ next =>
  let p:={ p with todo:=next }
  if kind=0 then bj rec m r p
  else if n<0∨10000000000000<n then none
  else if kind=1 then match m.lit r with
   |none=>none
   |some re=>if 1000000000<re.kids.length then none else match re.kids[n.toNat]? with
    |none=>none
    |some kid=>some (if n+1<re.kids.length then m.push (iA p 1 r (n+1) 0) else m,iA p 0 (.el kid) 0 0,true)
  else if kind=2 then fG m r n p
  else if kind=3 then (if p.at_=at_ then some (m,.zero,false) else some (m,iA p 2 r n 0,true))
  else if kind=4 then match m.lit r with
   |none=>none
   |some re=>if re.n<1∨(p.ai.length:Int)<re.n then none else some (m,{ p with ai:=p.ai.set (re.n-1).toNat (at_,p.at_) },true)
  else if kind=5 then some (m,p,decide (p.at_=at_))
  else none
def aQ:Nat→Bool→aB→Nat→ao→Bool→Option Rs
 |0,_,_,_,_,_=>none
 |k+1,out,m,base,p,alive =>
  if out=true∧m.aW=true then some (m,.zero,false)
  else if alive=true∧p.goals=true then match fY (fun m base p=>aQ k true m base p true) m p with
   |none=>none
   |some (m',p',NP)=>aQ k false m' base p' NP
  else if alive=true then some (m,p,!m.aW)
  else if m.top=base then some (m,.zero,false)
  else if m.top=0∨m.dY.length<m.top∨1200000000000<m.top then none
  else match m.dY[m.top-1]? with
   |none=>none
   |some none=>none
   |some (some last)=>aQ k true m.pop base last true
def ao.v (b a:Nat) (p:ao):V:=.ag ((p.cells b a).map .d)
theorem zM:type_of% (And.intro @i64.eq_1<|And.intro @bV.eq_1<|And.intro @iD.eq_1<|And.intro @bD.eq_1<|And.intro @List.cons_append.{0}<|And.intro @List.nil_append.{0}<|And.intro @List.map_cons.{0,0}<|And.intro @List.map_nil.{0,0}<|And.intro @ao.v.eq_1 @ao.cells.eq_1):=(And.intro @i64.eq_1<|And.intro @bV.eq_1<|And.intro @iD.eq_1<|And.intro @bD.eq_1<|And.intro @List.cons_append.{0}<|And.intro @List.nil_append.{0}<|And.intro @List.map_cons.{0,0}<|And.intro @List.map_nil.{0,0}<|And.intro @ao.v.eq_1 @ao.cells.eq_1)
def aR (b a:Nat) (p:ao) (x:Bool):V:=.tu [p.v b a,bV x]
theorem qS (g b a:Nat) (m:aB) (p:ao) (h0:m.top≤m.dY.length) (h1:m.top≤1200000000000) :
  az prog 119 [.pp 0 g 0 0 b a,p.v b a] (m.aF g b a) fun v s=>v=.tu []∧s=(m.push p).aF g b a:=by
 unfold aB.aF aB.aA
 refine av func119 rfl ntmps119 results119 rfl 3 11 (by simp) (by simp) ?_
 simp only[zX,simprocAttr,ao.v,ao.cells,VP,VO,i64,bV,Re.ae,iD,bD]
 refine an mix [] [(2,[0],[]),(3,[0],[]),(4,[0],[]),(8,[1],[1]),(9,[0],[]),(10,[0],[]),(11,[0],[0])] (by rfl) ?_
 simp only[zX,simprocAttr,i64,bV,Re.ae,iD,bD]
 refine⟨rfl,by simp,⟨by omega,by omega⟩,?_⟩
 refine an mix [] [(2,[0],[]),(3,[0],[]),(4,[0],[]),(6,[0],[]),(7,[0],[]),(8,[0],[]),(11,[0],[]),(12,[0],[]),(13,[0],[0])] (by rfl) ?_
 simp only[zX,simprocAttr,i64,bV,Re.ae,iD,bD]
 have e:List.take m.top (m.dY.map (F5 b a))++[[V.d (D.sc (Value.int IntKind.i64 p.at_)),V.d (bd p.ai),V.d (aI.d b a p.todo)]]=(m.push p).dY.map (F5 b a):=by
  simp only[aB.push,WA,List.map_take];rfl
 rw[e]
 exact⟨ak (m.push p) b a,rfl⟩
theorem P7 {o:Int} (h:o=1):decide (o=1)=true∧decide (o=2)=false∧decide (o=3)=false∧decide (o=4)=false∧decide (o=5)=false∧decide (o=6)=false∧decide (o=7)=false∧decide (o=8)=false∧decide (o=9)=false∧decide (o=10)=false∧decide (o=11)=false:=by subst h;decide
theorem P9 {o:Int} (h:o=2):decide (o=1)=false∧decide (o=2)=true∧decide (o=3)=false∧decide (o=4)=false∧decide (o=5)=false∧decide (o=6)=false∧decide (o=7)=false∧decide (o=8)=false∧decide (o=9)=false∧decide (o=10)=false∧decide (o=11)=false:=by subst h;decide
theorem PX {o:Int} (h:o=3):decide (o=1)=false∧decide (o=2)=false∧decide (o=3)=true∧decide (o=4)=false∧decide (o=5)=false∧decide (o=6)=false∧decide (o=7)=false∧decide (o=8)=false∧decide (o=9)=false∧decide (o=10)=false∧decide (o=11)=false:=by subst h;decide
theorem UD {o:Int} (h:o=4):decide (o=1)=false∧decide (o=2)=false∧decide (o=3)=false∧decide (o=4)=true∧decide (o=5)=false∧decide (o=6)=false∧decide (o=7)=false∧decide (o=8)=false∧decide (o=9)=false∧decide (o=10)=false∧decide (o=11)=false:=by subst h;decide
theorem PC {o:Int} (h:o=5):decide (o=1)=false∧decide (o=2)=false∧decide (o=3)=false∧decide (o=4)=false∧decide (o=5)=true∧decide (o=6)=false∧decide (o=7)=false∧decide (o=8)=false∧decide (o=9)=false∧decide (o=10)=false∧decide (o=11)=false:=by subst h;decide
theorem PN {o:Int} (h:o=6):decide (o=1)=false∧decide (o=2)=false∧decide (o=3)=false∧decide (o=4)=false∧decide (o=5)=false∧decide (o=6)=true∧decide (o=7)=false∧decide (o=8)=false∧decide (o=9)=false∧decide (o=10)=false∧decide (o=11)=false:=by subst h;decide
theorem Qj {o:Int} (h:o=7):decide (o=1)=false∧decide (o=2)=false∧decide (o=3)=false∧decide (o=4)=false∧decide (o=5)=false∧decide (o=6)=false∧decide (o=7)=true∧decide (o=8)=false∧decide (o=9)=false∧decide (o=10)=false∧decide (o=11)=false:=by subst h;decide
theorem P3 {o:Int} (h:o=8):decide (o=1)=false∧decide (o=2)=false∧decide (o=3)=false∧decide (o=4)=false∧decide (o=5)=false∧decide (o=6)=false∧decide (o=7)=false∧decide (o=8)=true∧decide (o=9)=false∧decide (o=10)=false∧decide (o=11)=false:=by subst h;decide
theorem P4 {o:Int} (h:o=9):decide (o=1)=false∧decide (o=2)=false∧decide (o=3)=false∧decide (o=4)=false∧decide (o=5)=false∧decide (o=6)=false∧decide (o=7)=false∧decide (o=8)=false∧decide (o=9)=true∧decide (o=10)=false∧decide (o=11)=false:=by subst h;decide
theorem My {o:Int} (h:o=10):decide (o=1)=false∧decide (o=2)=false∧decide (o=3)=false∧decide (o=4)=false∧decide (o=5)=false∧decide (o=6)=false∧decide (o=7)=false∧decide (o=8)=false∧decide (o=9)=false∧decide (o=10)=true∧decide (o=11)=false:=by subst h;decide
theorem MW {o:Int} (h:o=11):decide (o=1)=false∧decide (o=2)=false∧decide (o=3)=false∧decide (o=4)=false∧decide (o=5)=false∧decide (o=6)=false∧decide (o=7)=false∧decide (o=8)=false∧decide (o=9)=false∧decide (o=10)=false∧decide (o=11)=true:=by subst h;decide
theorem Gt {t:List Int}{i:Int} (h0:0≤i) (h1:i<t.length):(t.map fun x=>[V.d (D.sc (Value.int IntKind.i64 x))])[i.toNat]?=some [V.d (D.sc (Value.int IntKind.i64 (eH t i)))]:=by
 rw[VB,fD h0 h1];rfl
theorem wA {l:List (Int×Int)}{x:Int}{y:Int×Int}{i:Nat} (hy:l[i]?=some y) (h1:y.1≤x) (h2:x≤y.2):oQ l x=true:=by
 unfold oQ;rw[List.any_eq_true];exact⟨y,Vy hy,by rw[decide_eq_true h1,decide_eq_true h2];rfl⟩
theorem mC {l:List (Int×Int)}{x:Int}{y:Int×Int}{i:Nat} (hy:l[i]?=some y) (h:oQ (l.take i) x=false) (hn:¬(y.1≤x∧x≤y.2)):oQ (l.take (i+1)) x=false:=by
 rw[fg hy]
 unfold oQ at h ⊢
 rw[List.any_append,h]
 have:(decide (y.1≤x)&&decide (x≤y.2))=false:=by
  rw[V6];intro hc
  simp only[VE,decide_eq_true_eq]at hc
  exact hn hc
 simp [this]
theorem LD (g b a:Nat) (m:aB) (r:aG) (re:Re) (p:ao) (hq:¬p.at_<m.t.length) :
  az prog 153 [.pp 0 g 0 0 b a,.d (r.d b a),p.v b a] (m.aF g b a) fun v s=>v=aR b a (iW m.t re p).1 (iW m.t re p).2∧s=m.aF g b a:=by
 have hr:iW m.t re p=(.zero,false):=by rw[iW,if_neg (fun h=>hq h.1)]
 rw[hr]
 have oO:(m.t.length:Int)≤p.at_:=by omega
 cases hT:m.bq with
 |true =>
  have hM:=cB m b a (.so 2 m.ew 0 m.t.length) rfl
  rw[lb hT];unfold aB.aA
  refine av func153 rfl ntmps153 results153 rfl 3 15032387047 (by simp) (by simp) ?_
  simp only[zX,simprocAttr,zM,Re.ae]
  refine an mix [] [(3,[0],[]),(4,[0],[]),(5,[0],[]),(6,[2],[]),(0,[3],[]),(1,[3],[])] (by rfl) ?_
  simp only[zX,simprocAttr,zM,oO,ge_iff_le,Re.ae]
  exact⟨hM,rfl⟩
 |false =>
  have hM:=cB m b a (.d (ay m.t)) rfl
  rw[mT hT];unfold aB.aA
  simp only[ay]at hM ⊢
  refine av func153 rfl ntmps153 results153 rfl 3 15032387047 (by simp) (by simp) ?_
  simp only[zX,simprocAttr,zM,Re.ae]
  refine an mix [] [(3,[0],[]),(4,[0],[]),(5,[0],[]),(6,[2],[]),(0,[3],[]),(1,[3],[])] (by rfl) ?_
  simp only[zX,simprocAttr,zM,oO,ge_iff_le,Re.ae]
  exact⟨hM,rfl⟩
theorem J8 (g b a:Nat) (m:aB) (re:Re) (p:ao) (cC:re.set.length≤1000000000) (hp:0≤p.at_) (hq:p.at_<m.t.length) (ht:m.t.length≤1000000) :
  az prog 153 [.pp 0 g 0 0 b a,.d ((aG.el re).d b a),p.v b a] (m.aA g b a (.d (ay m.t))) fun v s=>v=aR b a (iW m.t re p).1 (iW m.t re p).2∧s=m.aA g b a (.d (ay m.t)):=by
 have hr:iW m.t re p=if oQ re.set (eH m.t p.at_)=true then ({ p with at_:=p.at_+1 },true) else (.zero,false):=by
  rw[iW];simp only[hq,true_and]
 rw[hr]
 have oO:¬(m.t.length:Int)≤p.at_:=by omega
 have w1:IntKind.i64.wrap (p.at_+1)=p.at_+1:=bR _ (by omega)
 have hM:=cB m b a (.d (ay m.t)) rfl
 have hg:=fD hp hq
 unfold aB.aA;simp only[ay]
 refine av func153 rfl ntmps153 results153 rfl 3 15032387047 (by simp) (by simp) ?_
 simp only[zX,simprocAttr,zM,Re.ae]
 refine an mix [] [(3,[0],[]),(4,[0],[]),(5,[0],[]),(6,[2],[]),(0,[3],[]),(1,[3],[])] (by rfl) ?_
 simp only[zX,simprocAttr,zM,oO,ge_iff_le,Re.ae]
 refine an mix [] [(1,[0],[]),(2,[0],[]),(3,[0],[]),(4,[3],[]),(5,[3],[]),(6,[2],[]),(7,[2],[])] (by rfl) ?_
 simp only[zX,simprocAttr,zM,Re.ae,aG.d,hp,hq,hg,VU]
 refine aY (fun n e s=>∃i:Nat,n=re.set.length-i∧i≤re.set.length∧e 0=.pp 0 g 0 0 b a∧e 5=.rf 3 0 0 0∧e 6=.rf 4 0 0 0∧e 8=i64 (eH m.t p.at_)∧e 31=.d (.sl (re.set.map aM))∧e 32=i64 re.set.length∧e 33=i64 i ∧
   s=m.aA g b a (.d (ay m.t))++[⟨0,true,3,[(p.cells b a).map .d]⟩,⟨0,true,3,[[.d (iD 0),.fu [],.d (.sc (.pointer none))]]⟩]∧oQ (re.set.take i) (eH m.t p.at_)=false)
  ⟨_,_,_,dt.refl,0,rfl,by omega,rfl,rfl,rfl,rfl,rfl,rfl,rfl,?_,rfl⟩ ?_
 ·rfl
 rintro n e s ⟨i,rfl,hi,h0,h5,h6,h8,m9,jE,uu,rfl,oP⟩
 unfold aB.aA;simp only[ay]
 rcases VX i re.set.length with aT|iR
 ·obtain⟨y,hy⟩:∃y,re.set[i]?=some y:=⟨_,Vu aT⟩
  by_cases c1:y.1≤eH m.t p.at_
  ·by_cases c2:eH m.t p.at_≤y.2
   ·rw[wA hy c1 c2]
    simp only[zX,simprocAttr,zM,Re.ae,h0,h5,h6,h8,m9,jE,uu,aT,hy,aM,c1,c2,w1]
    exact⟨hM,rfl⟩
   ·simp only[zX,simprocAttr,zM,Re.ae,h0,h5,h6,h8,m9,jE,uu,aT,hy,aM,c1,c2]
    refine⟨re.set.length-(i+1),_,_,by omega,dt.cut (s':=m.aA g b a (.d (ay m.t))++[⟨0,true,3,[(p.cells b a).map .d]⟩,⟨0,true,3,[[.d (iD 0),.fu [],.d (.sc (.pointer none))]]⟩]) 5 (by omega) rfl ?_ [0,5,6,8,31,32,33] ?_,i+1,rfl,aT,?_,?_,?_,?_,?_,?_,?_,rfl,mC hy oP (fun h=>c2 h.2)⟩ <;> (try simp only[zU,Nat.reduceBEq,Nat.reduceShiftRight,Nat.reduceMod,Nat.reduceEqDiff,reduceIte])
    ·rw[Wi,ff g b a m _ 5 (by omega) rfl];rfl
    ·simp [cu,bg,ar,i64,h0,h5,h6,h8,m9,jE,uu]
    ·exact h0
    ·exact h5
    ·exact h6
    ·exact h8
    ·exact m9
    ·exact jE
    ·rw[bR _ (by omega)];rfl
  ·simp only[zX,simprocAttr,zM,Re.ae,h0,h5,h6,h8,m9,jE,uu,aT,hy,aM,c1]
   refine⟨re.set.length-(i+1),_,_,by omega,dt.cut (s':=m.aA g b a (.d (ay m.t))++[⟨0,true,3,[(p.cells b a).map .d]⟩,⟨0,true,3,[[.d (iD 0),.fu [],.d (.sc (.pointer none))]]⟩]) 5 (by omega) rfl ?_ [0,5,6,8,31,32,33] ?_,i+1,rfl,aT,?_,?_,?_,?_,?_,?_,?_,rfl,mC hy oP (fun h=>c1 h.1)⟩ <;> (try simp only[zU,Nat.reduceBEq,Nat.reduceShiftRight,Nat.reduceMod,Nat.reduceEqDiff,reduceIte])
   ·rw[Wi,ff g b a m _ 5 (by omega) rfl];rfl
   ·simp [cu,bg,ar,i64,h0,h5,h6,h8,m9,jE,uu]
   ·exact h0
   ·exact h5
   ·exact h6
   ·exact h8
   ·exact m9
   ·exact jE
   ·rw[bR _ (by omega)];rfl
 ·have kT:i=re.set.length:=by omega
  subst kT
  rw[We]at oP
  rw[oP]
  simp only[zX,simprocAttr,zM,Re.ae,h0,h5,h6,h8,m9,jE,uu,Wj,Vw,if_false]
  exact⟨hM,rfl⟩
theorem GL (g b a:Nat) (m:aB) (re:Re) (p:ao) (cC:re.set.length≤1000000000) (hp:0≤p.at_) (hq:p.at_<m.t.length) (ht:m.t.length≤1000000) (hs:m.own=m.t) :
  az prog 153 [.pp 0 g 0 0 b a,.d ((aG.el re).d b a),p.v b a] (m.aA g b a (.so 2 m.ew 0 m.t.length)) fun v s=>v=aR b a (iW m.t re p).1 (iW m.t re p).2∧s=m.aA g b a (.so 2 m.ew 0 m.t.length):=by
 have hr:iW m.t re p=if oQ re.set (eH m.t p.at_)=true then ({ p with at_:=p.at_+1 },true) else (.zero,false):=by
  rw[iW];simp only[hq,true_and]
 rw[hr]
 have oO:¬(m.t.length:Int)≤p.at_:=by omega
 have w1:IntKind.i64.wrap (p.at_+1)=p.at_+1:=bR _ (by omega)
 have hM:=cB m b a (.so 2 m.ew 0 m.t.length) rfl
 have hg:=Gt hp hq
 have OJ:m.own.length=m.t.length:=by rw[hs]
 have D6:(m.own.map fun x=>[V.d (D.sc (Value.int IntKind.i64 x))])[p.at_.toNat]?=some [V.d (D.sc (Value.int IntKind.i64 (eH m.t p.at_)))]:=by rw[hs];exact hg
 unfold aB.aA
 refine av func153 rfl ntmps153 results153 rfl 3 15032387047 (by simp) (by simp) ?_
 simp only[zX,simprocAttr,zM,Re.ae]
 refine an mix [] [(3,[0],[]),(4,[0],[]),(5,[0],[]),(6,[2],[]),(0,[3],[]),(1,[3],[])] (by rfl) ?_
 simp only[zX,simprocAttr,zM,oO,ge_iff_le,Re.ae]
 refine an mix [] [(1,[0],[]),(2,[0],[]),(3,[0],[]),(4,[3],[]),(5,[3],[]),(6,[2],[]),(7,[2],[])] (by rfl) ?_
 simp only[zX,simprocAttr,zM,Re.ae,aG.d,hp,hq,D6,VU]
 refine aY (fun n e s=>∃i:Nat,n=re.set.length-i∧i≤re.set.length∧e 0=.pp 0 g 0 0 b a∧e 5=.rf 3 0 0 0∧e 6=.rf 4 0 0 0∧e 8=i64 (eH m.t p.at_)∧e 31=.d (.sl (re.set.map aM))∧e 32=i64 re.set.length∧e 33=i64 i ∧
   s=m.aA g b a (.so 2 m.ew 0 m.t.length)++[⟨0,true,3,[(p.cells b a).map .d]⟩,⟨0,true,3,[[.d (iD 0),.fu [],.d (.sc (.pointer none))]]⟩]∧oQ (re.set.take i) (eH m.t p.at_)=false)
  ⟨_,_,_,dt.refl,0,rfl,by omega,rfl,rfl,rfl,rfl,rfl,rfl,rfl,?_,rfl⟩ ?_
 ·rfl
 rintro n e s ⟨i,rfl,hi,h0,h5,h6,h8,m9,jE,uu,rfl,oP⟩
 unfold aB.aA
 rcases VX i re.set.length with aT|iR
 ·obtain⟨y,hy⟩:∃y,re.set[i]?=some y:=⟨_,Vu aT⟩
  by_cases c1:y.1≤eH m.t p.at_
  ·by_cases c2:eH m.t p.at_≤y.2
   ·rw[wA hy c1 c2]
    simp only[zX,simprocAttr,zM,Re.ae,h0,h5,h6,h8,m9,jE,uu,aT,hy,aM,c1,c2,w1]
    exact⟨hM,rfl⟩
   ·simp only[zX,simprocAttr,zM,Re.ae,h0,h5,h6,h8,m9,jE,uu,aT,hy,aM,c1,c2]
    refine⟨re.set.length-(i+1),_,_,by omega,dt.cut (s':=m.aA g b a (.so 2 m.ew 0 m.t.length)++[⟨0,true,3,[(p.cells b a).map .d]⟩,⟨0,true,3,[[.d (iD 0),.fu [],.d (.sc (.pointer none))]]⟩]) 5 (by omega) rfl ?_ [0,5,6,8,31,32,33] ?_,i+1,rfl,aT,?_,?_,?_,?_,?_,?_,?_,rfl,mC hy oP (fun h=>c2 h.2)⟩ <;> (try simp only[zU,Nat.reduceBEq,Nat.reduceShiftRight,Nat.reduceMod,Nat.reduceEqDiff,reduceIte])
    ·rw[Wi,ff g b a m _ 5 (by omega) rfl];rfl
    ·simp [cu,bg,ar,i64,h0,h5,h6,h8,m9,jE,uu]
    ·exact h0
    ·exact h5
    ·exact h6
    ·exact h8
    ·exact m9
    ·exact jE
    ·rw[bR _ (by omega)];rfl
  ·simp only[zX,simprocAttr,zM,Re.ae,h0,h5,h6,h8,m9,jE,uu,aT,hy,aM,c1]
   refine⟨re.set.length-(i+1),_,_,by omega,dt.cut (s':=m.aA g b a (.so 2 m.ew 0 m.t.length)++[⟨0,true,3,[(p.cells b a).map .d]⟩,⟨0,true,3,[[.d (iD 0),.fu [],.d (.sc (.pointer none))]]⟩]) 5 (by omega) rfl ?_ [0,5,6,8,31,32,33] ?_,i+1,rfl,aT,?_,?_,?_,?_,?_,?_,?_,rfl,mC hy oP (fun h=>c1 h.1)⟩ <;> (try simp only[zU,Nat.reduceBEq,Nat.reduceShiftRight,Nat.reduceMod,Nat.reduceEqDiff,reduceIte])
   ·rw[Wi,ff g b a m _ 5 (by omega) rfl];rfl
   ·simp [cu,bg,ar,i64,h0,h5,h6,h8,m9,jE,uu]
   ·exact h0
   ·exact h5
   ·exact h6
   ·exact h8
   ·exact m9
   ·exact jE
   ·rw[bR _ (by omega)];rfl
 ·have kT:i=re.set.length:=by omega
  subst kT
  rw[We]at oP
  rw[oP]
  simp only[zX,simprocAttr,zM,Re.ae,h0,h5,h6,h8,m9,jE,uu,Wj,Vw,if_false]
  exact⟨hM,rfl⟩
theorem Fa (g b a:Nat) (m:aB) (p:ao) (cC:m.p.re.set.length≤1000000000) (hp:0≤p.at_) (hq:p.at_<m.t.length) (ht:m.t.length≤1000000) :
  az prog 153 [.pp 0 g 0 0 b a,.d ((aG.root).d b a),p.v b a] (m.aA g b a (.d (ay m.t))) fun v s=>v=aR b a (iW m.t m.p.re p).1 (iW m.t m.p.re p).2∧s=m.aA g b a (.d (ay m.t)):=by
 have hr:iW m.t m.p.re p=if oQ m.p.re.set (eH m.t p.at_)=true then ({ p with at_:=p.at_+1 },true) else (.zero,false):=by
  rw[iW];simp only[hq,true_and]
 rw[hr]
 have oO:¬(m.t.length:Int)≤p.at_:=by omega
 have w1:IntKind.i64.wrap (p.at_+1)=p.at_+1:=bR _ (by omega)
 have hM:=cB m b a (.d (ay m.t)) rfl
 have hg:=fD hp hq
 unfold aB.aA;simp only[ay]
 refine av func153 rfl ntmps153 results153 rfl 3 15032387047 (by simp) (by simp) ?_
 simp only[zX,simprocAttr,zM,Re.ae]
 refine an mix [] [(3,[0],[]),(4,[0],[]),(5,[0],[]),(6,[2],[]),(0,[3],[]),(1,[3],[])] (by rfl) ?_
 simp only[zX,simprocAttr,zM,oO,ge_iff_le,Re.ae]
 refine an mix [] [(1,[0],[]),(2,[0],[]),(3,[0],[]),(4,[3],[]),(5,[3],[]),(6,[2],[]),(7,[2],[])] (by rfl) ?_
 simp only[zX,simprocAttr,zM,Re.ae,aG.d,hp,hq,hg,VU]
 refine aY (fun n e s=>∃i:Nat,n=m.p.re.set.length-i∧i≤m.p.re.set.length∧e 0=.pp 0 g 0 0 b a∧e 5=.rf 3 0 0 0∧e 6=.rf 4 0 0 0∧e 8=i64 (eH m.t p.at_)∧e 31=.d (.sl (m.p.re.set.map aM))∧e 32=i64 m.p.re.set.length∧e 33=i64 i ∧
   s=m.aA g b a (.d (ay m.t))++[⟨0,true,3,[(p.cells b a).map .d]⟩,⟨0,true,3,[[.d (iD 0),.fu [],.d (.sc (.pointer none))]]⟩]∧oQ (m.p.re.set.take i) (eH m.t p.at_)=false)
  ⟨_,_,_,dt.refl,0,rfl,by omega,rfl,rfl,rfl,rfl,rfl,rfl,rfl,?_,rfl⟩ ?_
 ·rfl
 rintro n e s ⟨i,rfl,hi,h0,h5,h6,h8,m9,jE,uu,rfl,oP⟩
 unfold aB.aA;simp only[ay]
 rcases VX i m.p.re.set.length with aT|iR
 ·obtain⟨y,hy⟩:∃y,m.p.re.set[i]?=some y:=⟨_,Vu aT⟩
  by_cases c1:y.1≤eH m.t p.at_
  ·by_cases c2:eH m.t p.at_≤y.2
   ·rw[wA hy c1 c2]
    simp only[zX,simprocAttr,zM,Re.ae,h0,h5,h6,h8,m9,jE,uu,aT,hy,aM,c1,c2,w1]
    exact⟨hM,rfl⟩
   ·simp only[zX,simprocAttr,zM,Re.ae,h0,h5,h6,h8,m9,jE,uu,aT,hy,aM,c1,c2]
    refine⟨m.p.re.set.length-(i+1),_,_,by omega,dt.cut (s':=m.aA g b a (.d (ay m.t))++[⟨0,true,3,[(p.cells b a).map .d]⟩,⟨0,true,3,[[.d (iD 0),.fu [],.d (.sc (.pointer none))]]⟩]) 5 (by omega) rfl ?_ [0,5,6,8,31,32,33] ?_,i+1,rfl,aT,?_,?_,?_,?_,?_,?_,?_,rfl,mC hy oP (fun h=>c2 h.2)⟩ <;> (try simp only[zU,Nat.reduceBEq,Nat.reduceShiftRight,Nat.reduceMod,Nat.reduceEqDiff,reduceIte])
    ·rw[Wi,ff g b a m _ 5 (by omega) rfl];rfl
    ·simp [cu,bg,ar,i64,h0,h5,h6,h8,m9,jE,uu]
    ·exact h0
    ·exact h5
    ·exact h6
    ·exact h8
    ·exact m9
    ·exact jE
    ·rw[bR _ (by omega)];rfl
  ·simp only[zX,simprocAttr,zM,Re.ae,h0,h5,h6,h8,m9,jE,uu,aT,hy,aM,c1]
   refine⟨m.p.re.set.length-(i+1),_,_,by omega,dt.cut (s':=m.aA g b a (.d (ay m.t))++[⟨0,true,3,[(p.cells b a).map .d]⟩,⟨0,true,3,[[.d (iD 0),.fu [],.d (.sc (.pointer none))]]⟩]) 5 (by omega) rfl ?_ [0,5,6,8,31,32,33] ?_,i+1,rfl,aT,?_,?_,?_,?_,?_,?_,?_,rfl,mC hy oP (fun h=>c1 h.1)⟩ <;> (try simp only[zU,Nat.reduceBEq,Nat.reduceShiftRight,Nat.reduceMod,Nat.reduceEqDiff,reduceIte])
   ·rw[Wi,ff g b a m _ 5 (by omega) rfl];rfl
   ·simp [cu,bg,ar,i64,h0,h5,h6,h8,m9,jE,uu]
   ·exact h0
   ·exact h5
   ·exact h6
   ·exact h8
   ·exact m9
   ·exact jE
   ·rw[bR _ (by omega)];rfl
 ·have kT:i=m.p.re.set.length:=by omega
  subst kT
  rw[We]at oP
  rw[oP]
  simp only[zX,simprocAttr,zM,Re.ae,h0,h5,h6,h8,m9,jE,uu,Wj,Vw,if_false]
  exact⟨hM,rfl⟩
theorem Dn (g b a:Nat) (m:aB) (p:ao) (cC:m.p.re.set.length≤1000000000) (hp:0≤p.at_) (hq:p.at_<m.t.length) (ht:m.t.length≤1000000) (hs:m.own=m.t) :
  az prog 153 [.pp 0 g 0 0 b a,.d ((aG.root).d b a),p.v b a] (m.aA g b a (.so 2 m.ew 0 m.t.length)) fun v s=>v=aR b a (iW m.t m.p.re p).1 (iW m.t m.p.re p).2∧s=m.aA g b a (.so 2 m.ew 0 m.t.length):=by
 have hr:iW m.t m.p.re p=if oQ m.p.re.set (eH m.t p.at_)=true then ({ p with at_:=p.at_+1 },true) else (.zero,false):=by
  rw[iW];simp only[hq,true_and]
 rw[hr]
 have oO:¬(m.t.length:Int)≤p.at_:=by omega
 have w1:IntKind.i64.wrap (p.at_+1)=p.at_+1:=bR _ (by omega)
 have hM:=cB m b a (.so 2 m.ew 0 m.t.length) rfl
 have hg:=Gt hp hq
 have OJ:m.own.length=m.t.length:=by rw[hs]
 have D6:(m.own.map fun x=>[V.d (D.sc (Value.int IntKind.i64 x))])[p.at_.toNat]?=some [V.d (D.sc (Value.int IntKind.i64 (eH m.t p.at_)))]:=by rw[hs];exact hg
 unfold aB.aA
 refine av func153 rfl ntmps153 results153 rfl 3 15032387047 (by simp) (by simp) ?_
 simp only[zX,simprocAttr,zM,Re.ae]
 refine an mix [] [(3,[0],[]),(4,[0],[]),(5,[0],[]),(6,[2],[]),(0,[3],[]),(1,[3],[])] (by rfl) ?_
 simp only[zX,simprocAttr,zM,oO,ge_iff_le,Re.ae]
 refine an mix [] [(1,[0],[]),(2,[0],[]),(3,[0],[]),(4,[3],[]),(5,[3],[]),(6,[2],[]),(7,[2],[])] (by rfl) ?_
 simp only[zX,simprocAttr,zM,Re.ae,aG.d,hp,hq,D6,VU]
 refine aY (fun n e s=>∃i:Nat,n=m.p.re.set.length-i∧i≤m.p.re.set.length∧e 0=.pp 0 g 0 0 b a∧e 5=.rf 3 0 0 0∧e 6=.rf 4 0 0 0∧e 8=i64 (eH m.t p.at_)∧e 31=.d (.sl (m.p.re.set.map aM))∧e 32=i64 m.p.re.set.length∧e 33=i64 i ∧
   s=m.aA g b a (.so 2 m.ew 0 m.t.length)++[⟨0,true,3,[(p.cells b a).map .d]⟩,⟨0,true,3,[[.d (iD 0),.fu [],.d (.sc (.pointer none))]]⟩]∧oQ (m.p.re.set.take i) (eH m.t p.at_)=false)
  ⟨_,_,_,dt.refl,0,rfl,by omega,rfl,rfl,rfl,rfl,rfl,rfl,rfl,?_,rfl⟩ ?_
 ·rfl
 rintro n e s ⟨i,rfl,hi,h0,h5,h6,h8,m9,jE,uu,rfl,oP⟩
 unfold aB.aA
 rcases VX i m.p.re.set.length with aT|iR
 ·obtain⟨y,hy⟩:∃y,m.p.re.set[i]?=some y:=⟨_,Vu aT⟩
  by_cases c1:y.1≤eH m.t p.at_
  ·by_cases c2:eH m.t p.at_≤y.2
   ·rw[wA hy c1 c2]
    simp only[zX,simprocAttr,zM,Re.ae,h0,h5,h6,h8,m9,jE,uu,aT,hy,aM,c1,c2,w1]
    exact⟨hM,rfl⟩
   ·simp only[zX,simprocAttr,zM,Re.ae,h0,h5,h6,h8,m9,jE,uu,aT,hy,aM,c1,c2]
    refine⟨m.p.re.set.length-(i+1),_,_,by omega,dt.cut (s':=m.aA g b a (.so 2 m.ew 0 m.t.length)++[⟨0,true,3,[(p.cells b a).map .d]⟩,⟨0,true,3,[[.d (iD 0),.fu [],.d (.sc (.pointer none))]]⟩]) 5 (by omega) rfl ?_ [0,5,6,8,31,32,33] ?_,i+1,rfl,aT,?_,?_,?_,?_,?_,?_,?_,rfl,mC hy oP (fun h=>c2 h.2)⟩ <;> (try simp only[zU,Nat.reduceBEq,Nat.reduceShiftRight,Nat.reduceMod,Nat.reduceEqDiff,reduceIte])
    ·rw[Wi,ff g b a m _ 5 (by omega) rfl];rfl
    ·simp [cu,bg,ar,i64,h0,h5,h6,h8,m9,jE,uu]
    ·exact h0
    ·exact h5
    ·exact h6
    ·exact h8
    ·exact m9
    ·exact jE
    ·rw[bR _ (by omega)];rfl
  ·simp only[zX,simprocAttr,zM,Re.ae,h0,h5,h6,h8,m9,jE,uu,aT,hy,aM,c1]
   refine⟨m.p.re.set.length-(i+1),_,_,by omega,dt.cut (s':=m.aA g b a (.so 2 m.ew 0 m.t.length)++[⟨0,true,3,[(p.cells b a).map .d]⟩,⟨0,true,3,[[.d (iD 0),.fu [],.d (.sc (.pointer none))]]⟩]) 5 (by omega) rfl ?_ [0,5,6,8,31,32,33] ?_,i+1,rfl,aT,?_,?_,?_,?_,?_,?_,?_,rfl,mC hy oP (fun h=>c1 h.1)⟩ <;> (try simp only[zU,Nat.reduceBEq,Nat.reduceShiftRight,Nat.reduceMod,Nat.reduceEqDiff,reduceIte])
   ·rw[Wi,ff g b a m _ 5 (by omega) rfl];rfl
   ·simp [cu,bg,ar,i64,h0,h5,h6,h8,m9,jE,uu]
   ·exact h0
   ·exact h5
   ·exact h6
   ·exact h8
   ·exact m9
   ·exact jE
   ·rw[bR _ (by omega)];rfl
 ·have kT:i=m.p.re.set.length:=by omega
  subst kT
  rw[We]at oP
  rw[oP]
  simp only[zX,simprocAttr,zM,Re.ae,h0,h5,h6,h8,m9,jE,uu,Wj,Vw,if_false]
  exact⟨hM,rfl⟩
theorem GB (g b a:Nat) (m:aB) (r:aG) (re:Re) (p:ao) (hr:m.lit r=some re) (cC:re.set.length≤1000000000) (hp:0≤p.at_) (ht:m.t.length≤1000000) (hs:m.same) :
  az prog 153 [.pp 0 g 0 0 b a,.d (r.d b a),p.v b a] (m.aF g b a) fun v s=>v=aR b a (iW m.t re p).1 (iW m.t re p).2∧s=m.aF g b a:=by
 by_cases hq:p.at_<m.t.length
 ·cases r with
  |nil=>cases hr
  |root =>
   cases hr
   cases hT:m.bq with
   |true=>rw[lb hT];exact Dn g b a m p cC hp hq ht (hs hT)
   |false=>rw[mT hT];exact Fa g b a m p cC hp hq ht
  |el yv =>
   cases hr
   cases hT:m.bq with
   |true=>rw[lb hT];exact GL g b a m re p cC hp hq ht (hs hT)
   |false=>rw[mT hT];exact J8 g b a m re p cC hp hq ht
 ·exact LD g b a m r re p hq
end Go.Proofs.Ytllagoeijcjpiaa
