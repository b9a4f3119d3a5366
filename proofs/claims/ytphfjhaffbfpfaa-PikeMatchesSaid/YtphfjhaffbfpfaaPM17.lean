/- A part of the proof (G21 G22 G23 G24 G25). -/
import Derived.Test.YtphfjhaffbfpfaaPM2
import Derived.Test.YtphfjhaffbfpfaaPM16
set_option linter.all false
set_option maxRecDepth 100000
set_option maxHeartbeats 80000000
namespace Go.Proofs.Ytphfjhaffbfpfaa
open Go.VL Go.Proofs.Try
variable{o:Int}{y:Int×Int}{l:List (Int×Int)}
inductive aD where
 |nil
 |root
 |el (re:Re)
def aD.d (b a:Nat):aD->D
 |.nil=>.sc (.pointer none)
 |.root=>.sc (.pointer (some ⟨b,a,none⟩))
 |.el re=>.el re.cells
inductive aF where
 |nil
 |mk (kind:Int) (re:aD) (n at_:Int) (next:aF)
def aF.d (b a:Nat):aF->D
 |.nil=>.sc (.pointer none)
 |.mk kind re n at_ next=>.el [iD kind,re.d b a,iD n,iD at_,next.d b a]
theorem gm (b a:Nat) (r:aD) (next:aF):ba prog 23 [.d (r.d b a),.d (next.d b a)] (.d ((aF.mk 0 r 0 0 next).d b a)):=by refine ar func23 rfl ntmps23 results23 rfl 0 19 (by simp) (by simp) ?_;simp only[zX,simprocAttr,aF.d,iD]
structure aw where
 at_:Int
 ah:aC
 todo:aF
def aw.cells (b a:Nat) (p:aw):List D:=[iD p.at_,bQ p.ah,p.todo.d b a]
def aw.zero:aw:=⟨0,[],.nil⟩
def KZ (b a:Nat):Option aw->List V
 |some p=>(p.cells b a).map V.d
 |none=>[.d (.sc (.int .i64 0)),.fu [],.d (.sc (.pointer none))]
structure aA where
 p:iF
 t:List Int
 bC:Bool
 own:List Int
 eV:Nat
 gj:List (Option aw)
 top:Nat
 gen:Nat
 cN:Int
 start:Int
 steps:Int
 fuel:Int
 bU:Bool
 ready:Bool
def aA.text (m:aA):V:=if m.bC=true then .so 2 m.eV 0 m.t.length else .d (av m.t)
def aA.ay (g b a:Nat) (m:aA) (T:V):List VL.Obj :=
 [⟨g,true,19,[[.d (iD m.p.re.op),.d (.sl (m.p.re.set.map aN)),.d (.sl (m.p.re.kids.map Re.cells)),.d (iD m.p.re.mn),.d (iD m.p.re.mx),.d (iD m.p.re.mode),.d (iD m.p.re.n),.d (bD m.p.re.neg),i64 m.p.ah,bV m.p.aK,T,.so 2 m.eV 0 m.own.length,.so 1 m.gen 0 m.top,i64 m.cN,i64 m.start,i64 m.steps,i64 m.fuel,bV m.bU,bV m.ready]]⟩,
  ⟨m.gen,true,3,m.gj.map (KZ b a)⟩,⟨m.eV,true,1,m.own.map λx=>[.d (iD x)]⟩]
def aA.aB (g b a:Nat) (m:aA):List VL.Obj:=m.ay g b a m.text
theorem oe {g b a:Nat}{m:aA} (h:m.bC=false):m.aB g b a=m.ay g b a (.d (av m.t)):=by unfold aA.aB aA.text;rw[am (by rw[h];exact ad2)]
theorem mh {g b a:Nat}{m:aA} (h:m.bC=true):m.aB g b a=m.ay g b a (.so 2 m.eV 0 m.t.length):=by unfold aA.aB aA.text;rw[ap h]
def aA.step (m:aA):aA:=if m.steps<m.fuel then { m with steps:=m.steps+1 } else { m with bU:=true }
theorem vK (l:List (Option aw)) (b a n:Nat):((l.map (KZ b a)).all λe=>e.all (ak n))=true:=by rw[adE];intro e he;obtain⟨p,_,rfl⟩:=List.mem_map.1 he;cases p <;> rfl
theorem tK (m:aA):ak 3 m.text=true:=by unfold aA.text;split <;> rfl
theorem cT (m:aA) (b a:Nat) (T:V) (h:ak 3 T=true):(ak 3 T&&(((m.gj.map (KZ b a)).all λe=>e.all (ak 3))&&(m.own.map λx=>[V.d (D.sc (.int .i64 x))]).all λe=>e.all (ak 3)))=true:=by rw[h,vK];exact oy m.own iD 3
theorem fp (g b a:Nat) (m:aA) (T:V) (n:Nat) (hn:3<=n) (h:ak n T=true):(m.ay g b a T).all (bJ n)=true:=by unfold aA.ay;simp only[List.all_cons,List.all_nil,Bool.and_true,bJ,adr,adt,adG,adP,h,i64,bV,vK,iD,bD,oy];simp [ak];omega
theorem an (m:aA) (b a:Nat):(ak 3 m.text&&(((m.gj.map (KZ b a)).all λe=>e.all (ak 3))&&(m.own.map λx=>[V.d (D.sc (.int .i64 x))]).all λe=>e.all (ak 3)))=true:=by rw[tK,vK];exact oy m.own iD 3
theorem cX (g b a:Nat) (m:aA) (h0:0<=m.steps) (h1:m.steps<=10000000000000) :
  au prog 81 [.pp 0 g 0 0 b a] (m.aB g b a) λv s=>v=bV (decide (m.steps<m.fuel))/\s=m.step.aB g b a:=by
 have w1:IntKind.i64.wrap (m.steps+1)=m.steps+1:=bM _ (by omega);unfold aA.aB aA.ay;generalize hT:m.text=T;by_cases c:m.steps<m.fuel
 ·have iP:¬m.fuel<=m.steps:=by omega
  have hs:m.step={ m with steps:=m.steps+1 }:=by rw[aA.step,ap c]
  rw[hs];refine ar func81 rfl ntmps81 results81 rfl 3 5 (by simp) (by simp) ?_;simp only[zX,simprocAttr,i64,bV,w1,Re.ae,iD,bD];refine ao mix [] [] (by rfl) ?_;simp only[zX,simprocAttr,i64,bV,w1,c,iP,Re.ae,iD,bD];subst hT;exact⟨an m b a,rfl⟩
 ·have iP:m.fuel<=m.steps:=by omega
  have hs:m.step={ m with bU:=true }:=by rw[aA.step,am c]
  rw[hs];refine ar func81 rfl ntmps81 results81 rfl 3 5 (by simp) (by simp) ?_;simp only[zX,simprocAttr,i64,bV,w1,Re.ae,iD,bD];refine ao mix [] [] (by rfl) ?_;simp only[zX,simprocAttr,i64,bV,w1,c,iP,Re.ae,iD,bD];subst hT;exact⟨an m b a,rfl⟩
abbrev Rs:=aA×aw×Bool
def aA.lit (m:aA):aD->Option Re
 |.nil=>none
 |.root=>some m.p.re
 |.el re=>some re
def aA.push (m:aA) (p:aw):aA:={ m with gj:=m.gj.take m.top++[some p],top:=m.top+1,gen:=m.gen+1,cN:=max m.cN ((m.top+1:Nat):Int) }
def aA.clear (m:aA) (base:Nat):aA:={ m with gj:=m.gj.take base++(List.replicate (m.top-base) none++m.gj.drop m.top),top:=base }
def aA.pop (m:aA):aA:={ m with gj:=m.gj.set (m.top-1) none,top:=m.top-1 }
def kq (p:aw) (kind:Int) (re:aD) (n at_:Int):aw:={ p with todo:=.mk kind re n at_ p.todo }
def aw.goals (p:aw):Bool:=match p.todo with
 |.nil=>false
 |.mk _ _ _ _ _=>true
def eJ (kids:List Re) (next:aF):aF:=kids.foldr (λk nx=>.mk 0 (.el k) 0 0 nx) next
def aA.same (m:aA):Prop:=m.bC=true->m.own=m.t
instance (m:aA):Decidable m.same:=by unfold aA.same;infer_instance
def kr (t:List Int) (re:Re) (p:aw):aw×Bool :=
 if p.at_<t.length/\tv re.set (gQ t p.at_)=true then ({ p with at_:=p.at_+1 },true) else (.zero,false)
def FY (t:List Int) (re:Re) (p:aw):Option (aw×Bool) :=
 if re.n<1\/(p.ah.length:Int)<re.n then none else
 let x:=p.ah.getD (re.n-1).toNat (-1,-1)
 if x.1 < -1000000\/x.2 < -1000000\/1000000<x.1\/1000000<x.2 then none
 else if x.1<0\/(t.length:Int)-p.at_<x.2-x.1 then some (.zero,false)
 else if x.2<x.1\/(t.length:Int)<x.2 then none
 else if dI t x.1 p.at_ (x.2-x.1).toNat=true then some ({ p with at_:=p.at_+(x.2-x.1) },true) else some (.zero,false)
abbrev Rec:=aA->Nat->aw->Option Rs
def e8 (rec:Rec) (m:aA) (p:aw):Option Rs:=match rec m m.top p with
 |none=>none
 |some (m',p',found)=>if m'.top<m.top\/m'.gj.length<m'.top then none else some (m'.clear m.top,p',found)
def jV (rec:Rec) (m:aA) (p:aw) (part:aF):Option Rs:=match e8 rec m { p with todo:=part } with
 |none=>none
 |some (m',r,found)=>some (m',{ r with todo:=p.todo },found)
def gJ (f:Int->aA->Option Rs) (neg:Bool) (p:aw) (last:Int):Nat->aA->Option Rs
 |0,m=>some (m,p,neg&&!m.bU)
 |j+1,m=>if m.bU=true then some (m,p,neg&&!m.bU) else match f (last+j) m with
  |none=>none
  |some (m',r,found)=>if found=true then (if neg=true then some (m',.zero,false) else some (m',{ p with ah:=r.ah },true)) else gJ f neg p last j m'
def kG (op:Int) (aL:Re) (at_:Int):aF:=if op=8 then .mk 0 (.el aL) 0 0 (.mk 5 .nil 0 at_ .nil) else .mk 0 (.el aL) 0 0 .nil
def lj (rec:Rec) (m:aA) (re:Re) (aL:Re) (p:aw):Option Rs :=
 gJ (λk m=>e8 rec m { at_:=k,ah:=p.ah,todo:=kG re.op aL p.at_ }) re.neg p (if re.op=8 then 0 else p.at_) (if re.op=8 then p.at_.toNat+1 else 1) m
def bq (rec:Rec) (m:aA) (r:aD) (p:aw):Option Rs:=match m.lit r with
 |none=>none
 |some re =>
  if 1000000000<re.set.length\/1000000000<re.kids.length then none
  else if re.op=4 then (if re.mode=2 then jV rec m p (.mk 2 r 0 0 .nil) else some (m,kq p 2 r 0 0,true))
  else if m.fuel<=m.steps then some (m.step,.zero,false)
  else
   let m:=m.step
   if re.op=1 then some (m,kr m.t re p)
   else if re.op=2 then some (m,{ p with todo:=eJ re.kids p.todo },true)
   else if re.op=3 then some (m,kq p 1 r 0 0,true)
   else if re.op=5 then match re.kids with
    |[]=>none
    |aL::_=>some (m,kq (kq p 4 r 0 p.at_) 0 (.el aL) 0 0,true)
   else if re.op=6 then match FY m.t re p with
    |none=>none
    |some x=>some (m,x)
   else if re.op=7\/re.op=8 then match re.kids with
    |[]=>none
    |aL::_=>lj rec m re aL p
   else if re.op=9 then match re.kids with
    |[]=>none
    |aL::_=>jV rec m p (.mk 0 (.el aL) 0 0 .nil)
   else if re.op=10 then match re.kids with
    |yes::no::_=>if re.n<1\/(p.ah.length:Int)<re.n then none else some (m,kq p 0 (.el (if 0<=(p.ah.getD (re.n-1).toNat (-1,-1)).1 then yes else no)) 0 0,true)
    |_=>none
   else if re.op=11 then (if re.n<0\/5<re.n then none else some (m,p,bN re.n m.t p.at_))
   else some (m,p,true)
def ka (m:aA) (r:aD) (n:Int) (p:aw):Option Rs:=match m.lit r with
 |none=>none
 |some re=>match re.kids with
  |[]=>none
  |aL::_ =>
   if m.fuel<=m.steps then some (m.step,.zero,false)
   else
    let m:=m.step
    if n<re.mn then some (m,{ p with todo:=.mk 0 (.el aL) 0 0 (.mk 2 r (n+1) 0 p.todo) },true)
    else if 0<=re.mx/\re.mx<=n then some (m,p,true)
    else
     let more:aw:={ p with todo:=.mk 0 (.el aL) 0 0 (.mk 3 r (n+1) p.at_ p.todo) }
     if re.mode=1 then some (m.push more,p,true) else some (m.push p,more,true)
def aA.bW (m:aA) (p:aw):Prop:=(0<=m.steps/\m.steps<=10000000000000/\m.top<=m.gj.length/\m.top<=1200000000000)/\(0<=p.at_/\p.at_<=m.t.length/\p.ah.length<=1000000000)/\m.t.length<=1000000/\m.same
instance (m:aA) (p:aw):Decidable (m.bW p):=by unfold aA.bW;infer_instance
def gX (rec:Rec) (m:aA) (p:aw):Option Rs :=
 if ¬m.bW p then none else match p.todo with
 |.nil=>none
 |.mk kind r n at_ next =>
  let p:={ p with todo:=next }
  if kind=0 then bq rec m r p
  else if n<0\/10000000000000<n then none
  else if kind=1 then match m.lit r with
   |none=>none
   |some re=>if 1000000000<re.kids.length then none else match re.kids[n.toNat]? with
    |none=>none
    |some aL=>some (if n+1<re.kids.length then m.push (kq p 1 r (n+1) 0) else m,kq p 0 (.el aL) 0 0,true)
  else if kind=2 then ka m r n p
  else if kind=3 then (if p.at_=at_ then some (m,.zero,false) else some (m,kq p 2 r n 0,true))
  else if kind=4 then match m.lit r with
   |none=>none
   |some re=>if re.n<1\/(p.ah.length:Int)<re.n then none else some (m,{ p with ah:=p.ah.set (re.n-1).toNat (at_,p.at_) },true)
  else if kind=5 then some (m,p,decide (p.at_=at_))
  else none
def bn:Nat->Bool->aA->Nat->aw->Bool->Option Rs
 |0,_,_,_,_,_=>none
 |k+1,out,m,base,p,alive =>
  if out=true/\m.bU=true then some (m,.zero,false)
  else if alive=true/\p.goals=true then match gX (λm base p=>bn k true m base p true) m p with
   |none=>none
   |some (m',p',Tk)=>bn k false m' base p' Tk
  else if alive=true then some (m,p,!m.bU)
  else if m.top=base then some (m,.zero,false)
  else if m.top=0\/m.gj.length<m.top\/1200000000000<m.top then none
  else match m.gj[m.top-1]? with
   |none=>none
   |some none=>none
   |some (some last)=>bn k true m.pop base last true
def aw.v (b a:Nat) (p:aw):V:=.ag ((p.cells b a).map .d)
def zM:=ac @i64.eq_1 @bV.eq_1 @iD.eq_1 @bD.eq_1 @List.cons_append.{0} @List.nil_append.{0} @List.map_cons.{0,0}<|And.intro @List.map_nil.{0,0}<|And.intro @aw.v.eq_1 @aw.cells.eq_1
def aO (b a:Nat) (p:aw) (x:Bool):V:=.tu [p.v b a,bV x]
theorem rQ (g b a:Nat) (m:aA) (p:aw) (h0:m.top<=m.gj.length) (h1:m.top<=1200000000000) :
  au prog 64 [.pp 0 g 0 0 b a,p.v b a] (m.aB g b a) λv s=>v=.tu []/\s=(m.push p).aB g b a:=by
 unfold aA.aB aA.ay;refine ar func64 rfl ntmps64 results64 rfl 3 11 (by simp) (by simp) ?_;simp only[zX,simprocAttr,aw.v,aw.cells,adG,adP,i64,bV,Re.ae,iD,bD];refine ao mix [] [(2,[0],[]),(3,[0],[]),(4,[0],[]),(8,[1],[1]),(9,[0],[]),(10,[0],[]),(11,[0],[0])] (by rfl) ?_;simp only[zX,simprocAttr,i64,bV,Re.ae,iD,bD];refine⟨rfl,by simp,⟨by omega,by omega⟩,?_⟩;refine ao mix [] [(2,[0],[]),(3,[0],[]),(4,[0],[]),(6,[0],[]),(7,[0],[]),(8,[0],[]),(11,[0],[]),(12,[0],[]),(13,[0],[0])] (by rfl) ?_;simp only[zX,simprocAttr,i64,bV,Re.ae,iD,bD];have e:List.take m.top (m.gj.map (KZ b a))++[[V.d (D.sc (Value.int IntKind.i64 p.at_)),V.d (bQ p.ah),V.d (aF.d b a p.todo)]]=(m.push p).gj.map (KZ b a):=by simp only[aA.push,List.map_append,List.map_take];rfl
 rw[e];exact⟨an (m.push p) b a,rfl⟩
theorem Vp (h:o=1):decide (o=1)=true/\decide (o=2)=false/\decide (o=3)=false/\decide (o=4)=false/\decide (o=5)=false/\decide (o=6)=false/\decide (o=7)=false/\decide (o=8)=false/\decide (o=9)=false/\decide (o=10)=false/\decide (o=11)=false:=by subst h;decide
theorem WY (h:o=2):decide (o=1)=false/\decide (o=2)=true/\decide (o=3)=false/\decide (o=4)=false/\decide (o=5)=false/\decide (o=6)=false/\decide (o=7)=false/\decide (o=8)=false/\decide (o=9)=false/\decide (o=10)=false/\decide (o=11)=false:=by subst h;decide
theorem Wj (h:o=3):decide (o=1)=false/\decide (o=2)=false/\decide (o=3)=true/\decide (o=4)=false/\decide (o=5)=false/\decide (o=6)=false/\decide (o=7)=false/\decide (o=8)=false/\decide (o=9)=false/\decide (o=10)=false/\decide (o=11)=false:=by subst h;decide
theorem abf (h:o=4):decide (o=1)=false/\decide (o=2)=false/\decide (o=3)=false/\decide (o=4)=true/\decide (o=5)=false/\decide (o=6)=false/\decide (o=7)=false/\decide (o=8)=false/\decide (o=9)=false/\decide (o=10)=false/\decide (o=11)=false:=by subst h;decide
theorem Wy (h:o=5):decide (o=1)=false/\decide (o=2)=false/\decide (o=3)=false/\decide (o=4)=false/\decide (o=5)=true/\decide (o=6)=false/\decide (o=7)=false/\decide (o=8)=false/\decide (o=9)=false/\decide (o=10)=false/\decide (o=11)=false:=by subst h;decide
theorem Wr (h:o=6):decide (o=1)=false/\decide (o=2)=false/\decide (o=3)=false/\decide (o=4)=false/\decide (o=5)=false/\decide (o=6)=true/\decide (o=7)=false/\decide (o=8)=false/\decide (o=9)=false/\decide (o=10)=false/\decide (o=11)=false:=by subst h;decide
theorem V5 (h:o=7):decide (o=1)=false/\decide (o=2)=false/\decide (o=3)=false/\decide (o=4)=false/\decide (o=5)=false/\decide (o=6)=false/\decide (o=7)=true/\decide (o=8)=false/\decide (o=9)=false/\decide (o=10)=false/\decide (o=11)=false:=by subst h;decide
theorem Wt (h:o=8):decide (o=1)=false/\decide (o=2)=false/\decide (o=3)=false/\decide (o=4)=false/\decide (o=5)=false/\decide (o=6)=false/\decide (o=7)=false/\decide (o=8)=true/\decide (o=9)=false/\decide (o=10)=false/\decide (o=11)=false:=by subst h;decide
theorem VM (h:o=9):decide (o=1)=false/\decide (o=2)=false/\decide (o=3)=false/\decide (o=4)=false/\decide (o=5)=false/\decide (o=6)=false/\decide (o=7)=false/\decide (o=8)=false/\decide (o=9)=true/\decide (o=10)=false/\decide (o=11)=false:=by subst h;decide
theorem RZ (h:o=10):decide (o=1)=false/\decide (o=2)=false/\decide (o=3)=false/\decide (o=4)=false/\decide (o=5)=false/\decide (o=6)=false/\decide (o=7)=false/\decide (o=8)=false/\decide (o=9)=false/\decide (o=10)=true/\decide (o=11)=false:=by subst h;decide
theorem RQ (h:o=11):decide (o=1)=false/\decide (o=2)=false/\decide (o=3)=false/\decide (o=4)=false/\decide (o=5)=false/\decide (o=6)=false/\decide (o=7)=false/\decide (o=8)=false/\decide (o=9)=false/\decide (o=10)=false/\decide (o=11)=true:=by subst h;decide
theorem Ky {t:List Int}{i:Int} (h0:0<=i) (h1:i<t.length):(t.map λx=>[V.d (D.sc (Value.int IntKind.i64 x))])[i.toNat]?=some [V.d (D.sc (Value.int IntKind.i64 (gQ t i)))]:=by rw[adL,ju h0 h1];rfl
theorem yG{x:Int}{i:Nat} (hy:l[i]?=some y) (h1:y.1<=x) (h2:x<=y.2):tv l x=true:=by unfold tv;rw[List.any_eq_true];exact⟨y,adw hy,by rw[adu h1,adu h2];rfl⟩
theorem nJ{x:Int}{i:Nat} (hy:l[i]?=some y) (h:tv (l.take i) x=false) (hn:¬(y.1<=x/\x<=y.2)):tv (l.take (i+1)) x=false:=by
 rw[cy hy];unfold tv at h ⊢;rw[List.any_append,h];have:(decide (y.1<=x)&&decide (x<=y.2))=false:=by rw[aee];intro hc;simp only[adD,adC]at hc;exact hn hc
 simp [this]
theorem RA (g b a:Nat) (m:aA) (r:aD) (re:Re) (p:aw) (hq:¬p.at_<m.t.length) :
  au prog 82 [.pp 0 g 0 0 b a,.d (r.d b a),p.v b a] (m.aB g b a) λv s=>v=aO b a (kr m.t re p).1 (kr m.t re p).2/\s=m.aB g b a:=by
 have hr:kr m.t re p=(.zero,false):=by rw[kr,am (λh=>hq h.1)]
 rw[hr];have Io:(m.t.length:Int)<=p.at_:=by omega
 cases hT:m.bC with
 |true =>
  have hM:=cT m b a (.so 2 m.eV 0 m.t.length) rfl;rw[mh hT];unfold aA.ay;refine ar func82 rfl ntmps82 results82 rfl 3 15032387047 (by simp) (by simp) ?_;simp only[zX,simprocAttr,zM,Re.ae];refine ao mix [] [(3,[0],[]),(4,[0],[]),(5,[0],[]),(6,[2],[]),(0,[3],[]),(1,[3],[])] (by rfl) ?_;simp only[zX,simprocAttr,zM,Io,ge_iff_le,Re.ae];exact⟨hM,rfl⟩
 |false =>
  have hM:=cT m b a (.d (av m.t)) rfl;rw[oe hT];unfold aA.ay;simp only[av]at hM ⊢;refine ar func82 rfl ntmps82 results82 rfl 3 15032387047 (by simp) (by simp) ?_;simp only[zX,simprocAttr,zM,Re.ae];refine ao mix [] [(3,[0],[]),(4,[0],[]),(5,[0],[]),(6,[2],[]),(0,[3],[]),(1,[3],[])] (by rfl) ?_;simp only[zX,simprocAttr,zM,Io,ge_iff_le,Re.ae];exact⟨hM,rfl⟩
theorem PL (g b a:Nat) (m:aA) (re:Re) (p:aw) (cC:re.set.length<=1000000000) (hp:0<=p.at_) (hq:p.at_<m.t.length) (ht:m.t.length<=1000000) :
  au prog 82 [.pp 0 g 0 0 b a,.d ((aD.el re).d b a),p.v b a] (m.ay g b a (.d (av m.t))) λv s=>v=aO b a (kr m.t re p).1 (kr m.t re p).2/\s=m.ay g b a (.d (av m.t)):=by
 have hr:kr m.t re p=if tv re.set (gQ m.t p.at_)=true then ({ p with at_:=p.at_+1 },true) else (.zero,false):=by rw[kr];simp only[hq,true_and]
 rw[hr];have Io:¬(m.t.length:Int)<=p.at_:=by omega
 have w1:IntKind.i64.wrap (p.at_+1)=p.at_+1:=bM _ (by omega);have hM:=cT m b a (.d (av m.t)) rfl;have hg:=ju hp hq;unfold aA.ay;simp only[av];refine ar func82 rfl ntmps82 results82 rfl 3 15032387047 (by simp) (by simp) ?_;simp only[zX,simprocAttr,zM,Re.ae];refine ao mix [] [(3,[0],[]),(4,[0],[]),(5,[0],[]),(6,[2],[]),(0,[3],[]),(1,[3],[])] (by rfl) ?_;simp only[zX,simprocAttr,zM,Io,ge_iff_le,Re.ae];refine ao mix [] [(1,[0],[]),(2,[0],[]),(3,[0],[]),(4,[3],[]),(5,[3],[]),(6,[2],[]),(7,[2],[])] (by rfl) ?_;simp only[zX,simprocAttr,zM,Re.ae,aD.d,hp,hq,hg,adI];refine aJ (λn e s=>∃i:Nat,n=re.set.length-i/\i<=re.set.length/\e 0=.pp 0 g 0 0 b a/\e 5=.rf 3 0 0 0/\e 6=.rf 4 0 0 0/\e 8=i64 (gQ m.t p.at_)/\e 31=.d (.sl (re.set.map aN))/\e 32=i64 re.set.length/\e 33=i64 i /\
   s=m.ay g b a (.d (av m.t))++[⟨0,true,3,[(p.cells b a).map .d]⟩,⟨0,true,3,[[.d (iD 0),.fu [],.d (.sc (.pointer none))]]⟩]/\tv (re.set.take i) (gQ m.t p.at_)=false)
  ⟨_,_,_,cU.refl,0,rfl,by omega,rfl,rfl,rfl,rfl,rfl,rfl,rfl,?_,rfl⟩ ?_
 ·rfl
 rintro n e s ⟨i,rfl,hi,h0,h5,h6,h8,nf,jI,wv,rfl,ov⟩;unfold aA.ay;simp only[av];rcases adV i re.set.length with aH|iP
 ·obtain⟨y,hy⟩:∃y,re.set[i]?=some y:=⟨_,adn aH⟩
  by_cases c1:y.1<=gQ m.t p.at_
  ·by_cases c2:gQ m.t p.at_<=y.2
   ·rw[yG hy c1 c2];simp only[zX,simprocAttr,zM,Re.ae,h0,h5,h6,h8,nf,jI,wv,aH,hy,aN,c1,c2,w1];exact⟨hM,rfl⟩
   ·simp only[zX,simprocAttr,zM,Re.ae,h0,h5,h6,h8,nf,jI,wv,aH,hy,aN,c1,c2];refine⟨re.set.length-(i+1),_,_,by omega,cU.cut (s':=m.ay g b a (.d (av m.t))++[⟨0,true,3,[(p.cells b a).map .d]⟩,⟨0,true,3,[[.d (iD 0),.fu [],.d (.sc (.pointer none))]]⟩]) 5 (by omega) rfl ?_ [0,5,6,8,31,32,33] ?_,i+1,rfl,aH,?_,?_,?_,?_,?_,?_,?_,rfl,nJ hy ov (λh=>c2 h.2)⟩ <;> (try simp only[zU,Nat.reduceBEq,Nat.reduceShiftRight,Nat.reduceMod,Nat.reduceEqDiff,reduceIte])
    ·rw[List.all_append,fp g b a m _ 5 (by omega) rfl];rfl
    ·simp [cB,br,ak,i64,h0,h5,h6,h8,nf,jI,wv]
    ·exact h0
    ·exact h5
    ·exact h6
    ·exact h8
    ·exact nf
    ·exact jI
    ·rw[bM _ (by omega)];rfl
  ·simp only[zX,simprocAttr,zM,Re.ae,h0,h5,h6,h8,nf,jI,wv,aH,hy,aN,c1];refine⟨re.set.length-(i+1),_,_,by omega,cU.cut (s':=m.ay g b a (.d (av m.t))++[⟨0,true,3,[(p.cells b a).map .d]⟩,⟨0,true,3,[[.d (iD 0),.fu [],.d (.sc (.pointer none))]]⟩]) 5 (by omega) rfl ?_ [0,5,6,8,31,32,33] ?_,i+1,rfl,aH,?_,?_,?_,?_,?_,?_,?_,rfl,nJ hy ov (λh=>c1 h.1)⟩ <;> (try simp only[zU,Nat.reduceBEq,Nat.reduceShiftRight,Nat.reduceMod,Nat.reduceEqDiff,reduceIte])
   ·rw[List.all_append,fp g b a m _ 5 (by omega) rfl];rfl
   ·simp [cB,br,ak,i64,h0,h5,h6,h8,nf,jI,wv]
   ·exact h0
   ·exact h5
   ·exact h6
   ·exact h8
   ·exact nf
   ·exact jI
   ·rw[bM _ (by omega)];rfl
 ·have fy:i=re.set.length:=by omega
  subst fy;rw[adZ]at ov;rw[ov];simp only[zX,simprocAttr,zM,Re.ae,h0,h5,h6,h8,nf,jI,wv,Nat.lt_irrefl,adq,if_false];exact⟨hM,rfl⟩
theorem K8 (g b a:Nat) (m:aA) (re:Re) (p:aw) (cC:re.set.length<=1000000000) (hp:0<=p.at_) (hq:p.at_<m.t.length) (ht:m.t.length<=1000000) (hs:m.own=m.t) :
  au prog 82 [.pp 0 g 0 0 b a,.d ((aD.el re).d b a),p.v b a] (m.ay g b a (.so 2 m.eV 0 m.t.length)) λv s=>v=aO b a (kr m.t re p).1 (kr m.t re p).2/\s=m.ay g b a (.so 2 m.eV 0 m.t.length):=by
 have hr:kr m.t re p=if tv re.set (gQ m.t p.at_)=true then ({ p with at_:=p.at_+1 },true) else (.zero,false):=by rw[kr];simp only[hq,true_and]
 rw[hr];have Io:¬(m.t.length:Int)<=p.at_:=by omega
 have w1:IntKind.i64.wrap (p.at_+1)=p.at_+1:=bM _ (by omega);have hM:=cT m b a (.so 2 m.eV 0 m.t.length) rfl;have hg:=Ky hp hq;have Xe:m.own.length=m.t.length:=by rw[hs]
 have PV:(m.own.map λx=>[V.d (D.sc (Value.int IntKind.i64 x))])[p.at_.toNat]?=some [V.d (D.sc (Value.int IntKind.i64 (gQ m.t p.at_)))]:=by rw[hs];exact hg
 unfold aA.ay;refine ar func82 rfl ntmps82 results82 rfl 3 15032387047 (by simp) (by simp) ?_;simp only[zX,simprocAttr,zM,Re.ae];refine ao mix [] [(3,[0],[]),(4,[0],[]),(5,[0],[]),(6,[2],[]),(0,[3],[]),(1,[3],[])] (by rfl) ?_;simp only[zX,simprocAttr,zM,Io,ge_iff_le,Re.ae];refine ao mix [] [(1,[0],[]),(2,[0],[]),(3,[0],[]),(4,[3],[]),(5,[3],[]),(6,[2],[]),(7,[2],[])] (by rfl) ?_;simp only[zX,simprocAttr,zM,Re.ae,aD.d,hp,hq,PV,adI];refine aJ (λn e s=>∃i:Nat,n=re.set.length-i/\i<=re.set.length/\e 0=.pp 0 g 0 0 b a/\e 5=.rf 3 0 0 0/\e 6=.rf 4 0 0 0/\e 8=i64 (gQ m.t p.at_)/\e 31=.d (.sl (re.set.map aN))/\e 32=i64 re.set.length/\e 33=i64 i /\
   s=m.ay g b a (.so 2 m.eV 0 m.t.length)++[⟨0,true,3,[(p.cells b a).map .d]⟩,⟨0,true,3,[[.d (iD 0),.fu [],.d (.sc (.pointer none))]]⟩]/\tv (re.set.take i) (gQ m.t p.at_)=false)
  ⟨_,_,_,cU.refl,0,rfl,by omega,rfl,rfl,rfl,rfl,rfl,rfl,rfl,?_,rfl⟩ ?_
 ·rfl
 rintro n e s ⟨i,rfl,hi,h0,h5,h6,h8,nf,jI,wv,rfl,ov⟩;unfold aA.ay;rcases adV i re.set.length with aH|iP
 ·obtain⟨y,hy⟩:∃y,re.set[i]?=some y:=⟨_,adn aH⟩
  by_cases c1:y.1<=gQ m.t p.at_
  ·by_cases c2:gQ m.t p.at_<=y.2
   ·rw[yG hy c1 c2];simp only[zX,simprocAttr,zM,Re.ae,h0,h5,h6,h8,nf,jI,wv,aH,hy,aN,c1,c2,w1];exact⟨hM,rfl⟩
   ·simp only[zX,simprocAttr,zM,Re.ae,h0,h5,h6,h8,nf,jI,wv,aH,hy,aN,c1,c2];refine⟨re.set.length-(i+1),_,_,by omega,cU.cut (s':=m.ay g b a (.so 2 m.eV 0 m.t.length)++[⟨0,true,3,[(p.cells b a).map .d]⟩,⟨0,true,3,[[.d (iD 0),.fu [],.d (.sc (.pointer none))]]⟩]) 5 (by omega) rfl ?_ [0,5,6,8,31,32,33] ?_,i+1,rfl,aH,?_,?_,?_,?_,?_,?_,?_,rfl,nJ hy ov (λh=>c2 h.2)⟩ <;> (try simp only[zU,Nat.reduceBEq,Nat.reduceShiftRight,Nat.reduceMod,Nat.reduceEqDiff,reduceIte])
    ·rw[List.all_append,fp g b a m _ 5 (by omega) rfl];rfl
    ·simp [cB,br,ak,i64,h0,h5,h6,h8,nf,jI,wv]
    ·exact h0
    ·exact h5
    ·exact h6
    ·exact h8
    ·exact nf
    ·exact jI
    ·rw[bM _ (by omega)];rfl
  ·simp only[zX,simprocAttr,zM,Re.ae,h0,h5,h6,h8,nf,jI,wv,aH,hy,aN,c1];refine⟨re.set.length-(i+1),_,_,by omega,cU.cut (s':=m.ay g b a (.so 2 m.eV 0 m.t.length)++[⟨0,true,3,[(p.cells b a).map .d]⟩,⟨0,true,3,[[.d (iD 0),.fu [],.d (.sc (.pointer none))]]⟩]) 5 (by omega) rfl ?_ [0,5,6,8,31,32,33] ?_,i+1,rfl,aH,?_,?_,?_,?_,?_,?_,?_,rfl,nJ hy ov (λh=>c1 h.1)⟩ <;> (try simp only[zU,Nat.reduceBEq,Nat.reduceShiftRight,Nat.reduceMod,Nat.reduceEqDiff,reduceIte])
   ·rw[List.all_append,fp g b a m _ 5 (by omega) rfl];rfl
   ·simp [cB,br,ak,i64,h0,h5,h6,h8,nf,jI,wv]
   ·exact h0
   ·exact h5
   ·exact h6
   ·exact h8
   ·exact nf
   ·exact jI
   ·rw[bM _ (by omega)];rfl
 ·have fy:i=re.set.length:=by omega
  subst fy;rw[adZ]at ov;rw[ov];simp only[zX,simprocAttr,zM,Re.ae,h0,h5,h6,h8,nf,jI,wv,Nat.lt_irrefl,adq,if_false];exact⟨hM,rfl⟩
theorem IZ (g b a:Nat) (m:aA) (p:aw) (cC:m.p.re.set.length<=1000000000) (hp:0<=p.at_) (hq:p.at_<m.t.length) (ht:m.t.length<=1000000) :
  au prog 82 [.pp 0 g 0 0 b a,.d ((aD.root).d b a),p.v b a] (m.ay g b a (.d (av m.t))) λv s=>v=aO b a (kr m.t m.p.re p).1 (kr m.t m.p.re p).2/\s=m.ay g b a (.d (av m.t)):=by
 have hr:kr m.t m.p.re p=if tv m.p.re.set (gQ m.t p.at_)=true then ({ p with at_:=p.at_+1 },true) else (.zero,false):=by rw[kr];simp only[hq,true_and]
 rw[hr];have Io:¬(m.t.length:Int)<=p.at_:=by omega
 have w1:IntKind.i64.wrap (p.at_+1)=p.at_+1:=bM _ (by omega);have hM:=cT m b a (.d (av m.t)) rfl;have hg:=ju hp hq;unfold aA.ay;simp only[av];refine ar func82 rfl ntmps82 results82 rfl 3 15032387047 (by simp) (by simp) ?_;simp only[zX,simprocAttr,zM,Re.ae];refine ao mix [] [(3,[0],[]),(4,[0],[]),(5,[0],[]),(6,[2],[]),(0,[3],[]),(1,[3],[])] (by rfl) ?_;simp only[zX,simprocAttr,zM,Io,ge_iff_le,Re.ae];refine ao mix [] [(1,[0],[]),(2,[0],[]),(3,[0],[]),(4,[3],[]),(5,[3],[]),(6,[2],[]),(7,[2],[])] (by rfl) ?_;simp only[zX,simprocAttr,zM,Re.ae,aD.d,hp,hq,hg,adI];refine aJ (λn e s=>∃i:Nat,n=m.p.re.set.length-i/\i<=m.p.re.set.length/\e 0=.pp 0 g 0 0 b a/\e 5=.rf 3 0 0 0/\e 6=.rf 4 0 0 0/\e 8=i64 (gQ m.t p.at_)/\e 31=.d (.sl (m.p.re.set.map aN))/\e 32=i64 m.p.re.set.length/\e 33=i64 i /\
   s=m.ay g b a (.d (av m.t))++[⟨0,true,3,[(p.cells b a).map .d]⟩,⟨0,true,3,[[.d (iD 0),.fu [],.d (.sc (.pointer none))]]⟩]/\tv (m.p.re.set.take i) (gQ m.t p.at_)=false)
  ⟨_,_,_,cU.refl,0,rfl,by omega,rfl,rfl,rfl,rfl,rfl,rfl,rfl,?_,rfl⟩ ?_
 ·rfl
 rintro n e s ⟨i,rfl,hi,h0,h5,h6,h8,nf,jI,wv,rfl,ov⟩;unfold aA.ay;simp only[av];rcases adV i m.p.re.set.length with aH|iP
 ·obtain⟨y,hy⟩:∃y,m.p.re.set[i]?=some y:=⟨_,adn aH⟩
  by_cases c1:y.1<=gQ m.t p.at_
  ·by_cases c2:gQ m.t p.at_<=y.2
   ·rw[yG hy c1 c2];simp only[zX,simprocAttr,zM,Re.ae,h0,h5,h6,h8,nf,jI,wv,aH,hy,aN,c1,c2,w1];exact⟨hM,rfl⟩
   ·simp only[zX,simprocAttr,zM,Re.ae,h0,h5,h6,h8,nf,jI,wv,aH,hy,aN,c1,c2];refine⟨m.p.re.set.length-(i+1),_,_,by omega,cU.cut (s':=m.ay g b a (.d (av m.t))++[⟨0,true,3,[(p.cells b a).map .d]⟩,⟨0,true,3,[[.d (iD 0),.fu [],.d (.sc (.pointer none))]]⟩]) 5 (by omega) rfl ?_ [0,5,6,8,31,32,33] ?_,i+1,rfl,aH,?_,?_,?_,?_,?_,?_,?_,rfl,nJ hy ov (λh=>c2 h.2)⟩ <;> (try simp only[zU,Nat.reduceBEq,Nat.reduceShiftRight,Nat.reduceMod,Nat.reduceEqDiff,reduceIte])
    ·rw[List.all_append,fp g b a m _ 5 (by omega) rfl];rfl
    ·simp [cB,br,ak,i64,h0,h5,h6,h8,nf,jI,wv]
    ·exact h0
    ·exact h5
    ·exact h6
    ·exact h8
    ·exact nf
    ·exact jI
    ·rw[bM _ (by omega)];rfl
  ·simp only[zX,simprocAttr,zM,Re.ae,h0,h5,h6,h8,nf,jI,wv,aH,hy,aN,c1];refine⟨m.p.re.set.length-(i+1),_,_,by omega,cU.cut (s':=m.ay g b a (.d (av m.t))++[⟨0,true,3,[(p.cells b a).map .d]⟩,⟨0,true,3,[[.d (iD 0),.fu [],.d (.sc (.pointer none))]]⟩]) 5 (by omega) rfl ?_ [0,5,6,8,31,32,33] ?_,i+1,rfl,aH,?_,?_,?_,?_,?_,?_,?_,rfl,nJ hy ov (λh=>c1 h.1)⟩ <;> (try simp only[zU,Nat.reduceBEq,Nat.reduceShiftRight,Nat.reduceMod,Nat.reduceEqDiff,reduceIte])
   ·rw[List.all_append,fp g b a m _ 5 (by omega) rfl];rfl
   ·simp [cB,br,ak,i64,h0,h5,h6,h8,nf,jI,wv]
   ·exact h0
   ·exact h5
   ·exact h6
   ·exact h8
   ·exact nf
   ·exact jI
   ·rw[bM _ (by omega)];rfl
 ·have fy:i=m.p.re.set.length:=by omega
  subst fy;rw[adZ]at ov;rw[ov];simp only[zX,simprocAttr,zM,Re.ae,h0,h5,h6,h8,nf,jI,wv,Nat.lt_irrefl,adq,if_false];exact⟨hM,rfl⟩
theorem Ff (g b a:Nat) (m:aA) (p:aw) (cC:m.p.re.set.length<=1000000000) (hp:0<=p.at_) (hq:p.at_<m.t.length) (ht:m.t.length<=1000000) (hs:m.own=m.t) :
  au prog 82 [.pp 0 g 0 0 b a,.d ((aD.root).d b a),p.v b a] (m.ay g b a (.so 2 m.eV 0 m.t.length)) λv s=>v=aO b a (kr m.t m.p.re p).1 (kr m.t m.p.re p).2/\s=m.ay g b a (.so 2 m.eV 0 m.t.length):=by
 have hr:kr m.t m.p.re p=if tv m.p.re.set (gQ m.t p.at_)=true then ({ p with at_:=p.at_+1 },true) else (.zero,false):=by rw[kr];simp only[hq,true_and]
 rw[hr];have Io:¬(m.t.length:Int)<=p.at_:=by omega
 have w1:IntKind.i64.wrap (p.at_+1)=p.at_+1:=bM _ (by omega);have hM:=cT m b a (.so 2 m.eV 0 m.t.length) rfl;have hg:=Ky hp hq;have Xe:m.own.length=m.t.length:=by rw[hs]
 have PV:(m.own.map λx=>[V.d (D.sc (Value.int IntKind.i64 x))])[p.at_.toNat]?=some [V.d (D.sc (Value.int IntKind.i64 (gQ m.t p.at_)))]:=by rw[hs];exact hg
 unfold aA.ay;refine ar func82 rfl ntmps82 results82 rfl 3 15032387047 (by simp) (by simp) ?_;simp only[zX,simprocAttr,zM,Re.ae];refine ao mix [] [(3,[0],[]),(4,[0],[]),(5,[0],[]),(6,[2],[]),(0,[3],[]),(1,[3],[])] (by rfl) ?_;simp only[zX,simprocAttr,zM,Io,ge_iff_le,Re.ae];refine ao mix [] [(1,[0],[]),(2,[0],[]),(3,[0],[]),(4,[3],[]),(5,[3],[]),(6,[2],[]),(7,[2],[])] (by rfl) ?_;simp only[zX,simprocAttr,zM,Re.ae,aD.d,hp,hq,PV,adI];refine aJ (λn e s=>∃i:Nat,n=m.p.re.set.length-i/\i<=m.p.re.set.length/\e 0=.pp 0 g 0 0 b a/\e 5=.rf 3 0 0 0/\e 6=.rf 4 0 0 0/\e 8=i64 (gQ m.t p.at_)/\e 31=.d (.sl (m.p.re.set.map aN))/\e 32=i64 m.p.re.set.length/\e 33=i64 i /\
   s=m.ay g b a (.so 2 m.eV 0 m.t.length)++[⟨0,true,3,[(p.cells b a).map .d]⟩,⟨0,true,3,[[.d (iD 0),.fu [],.d (.sc (.pointer none))]]⟩]/\tv (m.p.re.set.take i) (gQ m.t p.at_)=false)
  ⟨_,_,_,cU.refl,0,rfl,by omega,rfl,rfl,rfl,rfl,rfl,rfl,rfl,?_,rfl⟩ ?_
 ·rfl
 rintro n e s ⟨i,rfl,hi,h0,h5,h6,h8,nf,jI,wv,rfl,ov⟩;unfold aA.ay;rcases adV i m.p.re.set.length with aH|iP
 ·obtain⟨y,hy⟩:∃y,m.p.re.set[i]?=some y:=⟨_,adn aH⟩
  by_cases c1:y.1<=gQ m.t p.at_
  ·by_cases c2:gQ m.t p.at_<=y.2
   ·rw[yG hy c1 c2];simp only[zX,simprocAttr,zM,Re.ae,h0,h5,h6,h8,nf,jI,wv,aH,hy,aN,c1,c2,w1];exact⟨hM,rfl⟩
   ·simp only[zX,simprocAttr,zM,Re.ae,h0,h5,h6,h8,nf,jI,wv,aH,hy,aN,c1,c2];refine⟨m.p.re.set.length-(i+1),_,_,by omega,cU.cut (s':=m.ay g b a (.so 2 m.eV 0 m.t.length)++[⟨0,true,3,[(p.cells b a).map .d]⟩,⟨0,true,3,[[.d (iD 0),.fu [],.d (.sc (.pointer none))]]⟩]) 5 (by omega) rfl ?_ [0,5,6,8,31,32,33] ?_,i+1,rfl,aH,?_,?_,?_,?_,?_,?_,?_,rfl,nJ hy ov (λh=>c2 h.2)⟩ <;> (try simp only[zU,Nat.reduceBEq,Nat.reduceShiftRight,Nat.reduceMod,Nat.reduceEqDiff,reduceIte])
    ·rw[List.all_append,fp g b a m _ 5 (by omega) rfl];rfl
    ·simp [cB,br,ak,i64,h0,h5,h6,h8,nf,jI,wv]
    ·exact h0
    ·exact h5
    ·exact h6
    ·exact h8
    ·exact nf
    ·exact jI
    ·rw[bM _ (by omega)];rfl
  ·simp only[zX,simprocAttr,zM,Re.ae,h0,h5,h6,h8,nf,jI,wv,aH,hy,aN,c1];refine⟨m.p.re.set.length-(i+1),_,_,by omega,cU.cut (s':=m.ay g b a (.so 2 m.eV 0 m.t.length)++[⟨0,true,3,[(p.cells b a).map .d]⟩,⟨0,true,3,[[.d (iD 0),.fu [],.d (.sc (.pointer none))]]⟩]) 5 (by omega) rfl ?_ [0,5,6,8,31,32,33] ?_,i+1,rfl,aH,?_,?_,?_,?_,?_,?_,?_,rfl,nJ hy ov (λh=>c1 h.1)⟩ <;> (try simp only[zU,Nat.reduceBEq,Nat.reduceShiftRight,Nat.reduceMod,Nat.reduceEqDiff,reduceIte])
   ·rw[List.all_append,fp g b a m _ 5 (by omega) rfl];rfl
   ·simp [cB,br,ak,i64,h0,h5,h6,h8,nf,jI,wv]
   ·exact h0
   ·exact h5
   ·exact h6
   ·exact h8
   ·exact nf
   ·exact jI
   ·rw[bM _ (by omega)];rfl
 ·have fy:i=m.p.re.set.length:=by omega
  subst fy;rw[adZ]at ov;rw[ov];simp only[zX,simprocAttr,zM,Re.ae,h0,h5,h6,h8,nf,jI,wv,Nat.lt_irrefl,adq,if_false];exact⟨hM,rfl⟩
theorem Kf (g b a:Nat) (m:aA) (r:aD) (re:Re) (p:aw) (hr:m.lit r=some re) (cC:re.set.length<=1000000000) (hp:0<=p.at_) (ht:m.t.length<=1000000) (hs:m.same) :
  au prog 82 [.pp 0 g 0 0 b a,.d (r.d b a),p.v b a] (m.aB g b a) λv s=>v=aO b a (kr m.t re p).1 (kr m.t re p).2/\s=m.aB g b a:=by
 by_cases hq:p.at_<m.t.length
 ·cases r with
  |nil=>cases hr
  |root =>
   cases hr;cases hT:m.bC with
   |true=>rw[mh hT];exact Ff g b a m p cC hp hq ht (hs hT)
   |false=>rw[oe hT];exact IZ g b a m p cC hp hq ht
  |el zv =>
   cases hr;cases hT:m.bC with
   |true=>rw[mh hT];exact K8 g b a m re p cC hp hq ht (hs hT)
   |false=>rw[oe hT];exact PL g b a m re p cC hp hq ht
 ·exact RA g b a m r re p hq
end Go.Proofs.Ytphfjhaffbfpfaa
