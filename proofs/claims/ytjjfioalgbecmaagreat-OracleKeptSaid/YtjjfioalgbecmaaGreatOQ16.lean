/- A part of the proof (F4 F5 F13 F15 F16 G5). -/
import Derived.Test.YtjjfioalgbecmaaGreatOQ15
set_option linter.unusedSimpArgs false
set_option linter.unusedVariables false
open Nat renaming reduceShiftRight → jN, reduceMod → oN, reduceEqDiff → oV, reduceBEq → pZ
set_option maxRecDepth 100000
set_option maxHeartbeats 80000000
namespace Go.Proofs.YtjjfioalgbecmaaGreat
open Go.VL Go.Proofs.Tryz
structure Mk where
 l:List Int
 pos:Int
 cL:Int
 left:Int
 ai:Int
def kR (m:Mk):VL.Obj:=⟨0,true,5,[[.d (ao m.l),i64 m.pos,i64 m.cL,i64 m.left,i64 m.ai]]⟩
def kQ:V:=.rf 0 0 0 0
structure Mk.ok (m:Mk):Prop where
 l:∀x∈m.l,l9 x
 pos:0<=m.pos/\m.pos<=1000000000
 left:-1000000000<=m.left/\m.left<=1000000000
 ai:0<=m.ai/\m.ai<=1000000000
def Mk.next (m:Mk) (n:Int):Int×Mk:=(pick m.l m.pos n,{ m with pos:=m.pos+1 })
theorem fZ (m:Mk) (hl:∀x∈m.l,l9 x) (hp:0<=m.pos/\m.pos<=1000000000) (n:Int) (hn:1<=n):ar prog 109 [kQ,i64 n] [kR m] λv s=>v=i64 (m.next n).1/\s=[kR (m.next n).2]:=by
 have w1:IntKind.i64.wrap (m.pos+1)=m.pos+1:=bG _ ae;have w2:IntKind.i64.wrap (m.pos+1-1)=m.pos:=by rw[bG _ ae];omega
 refine bo func109 ntmps109 results109 1 19 ?_;simp only[zJ,simprocAttr,kQ,kR,w1,w2];refine cu mix [] [] ?_;simp only[zJ,simprocAttr,kQ,kR,w1,w2];refine Fk (Om m.l hl m.pos n hn) ?_;simp only[zJ,simprocAttr,kQ,kR,w1,w2,Mk.next]
def qs:List (List (Int×Int)):=[[(97,97)],[(98,98)],[(97,98)],[(99,99)],[(97,99)],[(0,96),(98,255)],[(10,10),(97,97)],[]]
def Re.TY (set:List (Int×Int)):Re:=.mk 1 set [] 0 0 0 0 false
def Mk.set (m:Mk):Re×Mk :=
 let (k,m1):=m.next 15
 (Re.TY ((qs[(k / 2).toNat]?).getD []),m1)
theorem cb (l:List Int) (i m:Int) (hm:1<=m):0<=pick l i m/\pick l i m<m:=by
 unfold pick m8;split
 ·omega
 ·split
  ·rename_i h;have h1:0<=-(l[i.toNat]?.getD 0+1):=ae;exact⟨Int.tmod_nonneg _ h1,Int.tmod_lt_of_pos _ ae⟩
  ·rename_i h;exact⟨Int.tmod_nonneg _ ae,Int.tmod_lt_of_pos _ ae⟩
theorem xp (m:Mk) (hl:∀x∈m.l,l9 x) (hp:0<=m.pos/\m.pos<=1000000000):ar prog 110 [kQ] [kR m] λv s=>v=sN m.set.1/\s=[kR m.set.2]:=by
 have hk:=cb m.l m.pos 15 ae;have hd:(pick m.l m.pos 15).tdiv 2=pick m.l m.pos 15 / 2:=by rw[Int.tdiv_eq_ediv_of_nonneg hk.1]
 have w1:IntKind.i64.wrap (pick m.l m.pos 15 / 2)=pick m.l m.pos 15 / 2:=bG _ ae;refine bo func110 ntmps110 results110 1 13 ?_;simp only[zJ,simprocAttr,kQ];refine qO (fZ m hl hp 15 ae) ?_;have hc:pick m.l m.pos 15 / 2=0\/pick m.l m.pos 15 / 2=1\/pick m.l m.pos 15 / 2=2\/pick m.l m.pos 15 / 2=3\/pick m.l m.pos 15 / 2=4\/pick m.l m.pos 15 / 2=5\/pick m.l m.pos 15 / 2=6\/pick m.l m.pos 15 / 2=7:=ae;simp only[zJ,simprocAttr,kQ,Mk.next,hd,w1];rcases hc with hc|hc|hc|hc|hc|hc|hc|hc <;> (simp only[zW,simprocAttr,hc,Mk.set,Mk.next,qs,Re.TY,Int.toNat_zero,sN,Re.cells];first|exact⟨ae,rfl,rfl⟩|exact⟨rfl,rfl⟩|rfl)
mutual
def Re.sK:Re->Bool
 |.mk op _ kids mn _ _ _ _=>if op=1 then false else if op=2 then Re.xi kids else if op=3\/op=10 then Re.ta kids else if op=4 then decide (mn<=0)||Re.mZ kids else if op=5\/op=9 then Re.mZ kids else true
def Re.xi:List Re->Bool
 |[]=>true
 |k::l=>k.sK&&Re.xi l
def Re.ta:List Re->Bool
 |[]=>false
 |k::l=>k.sK||Re.ta l
def Re.mZ:List Re->Bool
 |[]=>false
 |k::_=>k.sK
end
theorem Re.tG (re:Re):re.sK=if re.op=1 then false else if re.op=2 then Re.xi re.kids else if re.op=3\/re.op=10 then Re.ta re.kids else if re.op=4 then decide (re.mn<=0)||Re.mZ re.kids else if re.op=5\/re.op=9 then Re.mZ re.kids else true:=by
 cases re;simp only[Re.sK,Re.op,Re.kids,Re.mn];rfl
theorem Re.rG:∀l:List Re,Re.xi l=l.all Re.sK
 |[]=>rfl
 |k::l=>by simp [Re.xi,Re.rG l]
theorem Re.ry:∀l:List Re,Re.ta l=l.any Re.sK
 |[]=>rfl
 |k::l=>by simp [Re.ta,Re.ry l]
theorem cy {α:Type}{l:List α}{i:Nat}{k x:α} (h:l[i]?=some k) (hx:x∈l.take (i+1)):x∈l.take i\/x=k:=by rw[bm h]at hx;simpa using hx
theorem jn (re:Re):re.size<=1000000000->aM prog 75 [sN re] (bV re.sK):=by
 induction re using Re.ind with
 |h re ih =>
 intro hs;have hlen:=Re.pR re.kids;have eZ:=Re.size_eq re;refine bo func75 ntmps75 results75 0 576460752336978015 ?_;by_cases o1:re.op=1
 ·simp only[zW,simprocAttr,av re,iD,bD,bV,o1,Re.tG re]
 by_cases o2:re.op=2
 ·simp only[zW,simprocAttr,av re,iD,bD,bV,o2];refine aw (λn e s=>∃i:Nat,n=re.kids.length-i/\i<=re.kids.length/\e 1=.rf 0 0 0 0/\e 3=i64 i/\(∀x∈re.kids.take i,x.sK=true)/\s=[⟨0,true,8,[re.cells.map .d]⟩]) ⟨_,_,_,bA.refl,0,rfl,ak,rfl,rfl,ak,by simp [Re.ah re,iD,bD,o2]⟩ ?_;rintro n e s ⟨i,rfl,hi,h1,h3,hn,rfl⟩;rcases akd i re.kids.length with az|gx
  ·obtain⟨k,hk⟩:∃k,re.kids[i]?=some k:=cc az;have hm:=List.mem_of_getElem? hk;have UF:=Re.de hm;simp only[zW,simprocAttr,Re.ah re,iD,bD,h1,h3,i64,az,hk];refine dY (ih k hm ae) ?_;cases fm:k.sK with
   |false =>
    simp only[zW,simprocAttr,bV,fm];have:Re.xi re.kids=false:=by rw[Re.rG,alg];exact⟨k,hm,by simp [fm]⟩
    simp [Re.tG re,o2,this]
   |true =>
    simp only[zW,simprocAttr,bV,fm,h3,i64];refine⟨_,_,_,?_,bA.refl,i+1,rfl,az,?_⟩
    ·omega
    simp only[bK,oV,if_true,if_false];refine⟨h1,?_,λx hx=>?_,by simp [Re.ah re,iD,bD]⟩
    ·rw[bG _ ae];rfl
    ·rcases cy hk hx with h|rfl
     ·exact hn x h
     ·exact fm
  ·have dX:i=re.kids.length:=by omega
   subst dX;simp only[zW,simprocAttr,Re.ah re,iD,bD,h1,h3,i64,ak9,bV];have:Re.xi re.kids=true:=by rw[Re.rG,aj3];simpa using hn
   simp [Re.tG re,o2,this]
 by_cases o3:re.op=3\/re.op=10
 ·have hr:re.sK=Re.ta re.kids:=by simp [Re.tG re,o1,o2,o3]
  rcases o3 with o3|o3;all_goals
   simp only[zW,simprocAttr,av re,iD,bD,bV,o1,o2,o3];refine aw (λn e s=>∃i:Nat,n=re.kids.length-i/\i<=re.kids.length/\e 1=.rf 0 0 0 0/\e 4=i64 i/\(∀x∈re.kids.take i,x.sK=false)/\s=[⟨0,true,8,[re.cells.map .d]⟩]) ⟨_,_,_,bA.refl,0,rfl,ak,rfl,rfl,ak,by simp [Re.ah re,iD,bD,o3]⟩ ?_;rintro n e s ⟨i,rfl,hi,h1,h3,hn,rfl⟩;rcases akd i re.kids.length with az|gx
   ·obtain⟨k,hk⟩:∃k,re.kids[i]?=some k:=cc az;have hm:=List.mem_of_getElem? hk;have UF:=Re.de hm;simp only[zW,simprocAttr,Re.ah re,iD,bD,h1,h3,i64,az,hk];refine dY (ih k hm ae) ?_;cases fm:k.sK with
    |true =>
     simp only[zW,simprocAttr,bV,fm];have:Re.ta re.kids=true:=by rw[Re.ry,List.any_eq_true];exact⟨k,hm,by simp [fm]⟩
     simp [hr,this]
    |false =>
     simp only[zW,simprocAttr,bV,fm,h3,i64];refine⟨_,_,_,?_,bA.refl,i+1,rfl,az,?_⟩
     ·omega
     simp only[bK,oV,if_true,if_false];refine⟨h1,?_,λx hx=>?_,by simp [Re.ah re,iD,bD]⟩
     ·rw[bG _ ae];rfl
     ·rcases cy hk hx with h|rfl
      ·exact hn x h
      ·exact fm
   ·have dX:i=re.kids.length:=by omega
    subst dX;simp only[zW,simprocAttr,Re.ah re,iD,bD,h1,h3,i64,ak9,bV];have:Re.ta re.kids=false:=by rw[Re.ry,List.any_eq_false];simpa using hn
    simp [hr,this]
 have UP:¬re.op=3:=λh=>o3 (.inl h);have L7:¬re.op=10:=λh=>o3 (.inr h);by_cases o4:re.op=4
 ·have hr:re.sK=(decide (re.mn<=0)||Re.mZ re.kids):=by simp [Re.tG re,o4]
  by_cases hmn:re.mn<=0
  ·simp only[zW,simprocAttr,av re,iD,bD,bV,o1,o2,UP,L7,o4,hmn];simp [hr,hmn]
  cases hk:re.kids with
  |nil =>
   simp only[zW,simprocAttr,av re,iD,bD,bV,o1,o2,UP,L7,o4,hmn,hk,ajV];simp [hr,hmn,hk,Re.mZ]
  |cons k l =>
   have hm:k∈re.kids:=by simp [hk]
   have UF:=Re.de hm;have lX:(0:Int)<((l.length+1:Nat):Int):=ae;simp only[zW,simprocAttr,av re,iD,bD,bV,o1,o2,UP,L7,o4,hmn,hk,ajR,lX];refine dY (ih k hm ae) ?_;cases fm:k.sK with
   |true =>
    simp only[zW,simprocAttr,bV,fm];simp [hr,hmn,hk,Re.mZ,fm]
   |false =>
    simp only[zW,simprocAttr,bV,fm];simp [hr,hmn,hk,Re.mZ,fm]
 by_cases o5:re.op=5\/re.op=9
 ·have hr:re.sK=Re.mZ re.kids:=by simp [Re.tG re,o1,o2,o3,o4,o5]
  rcases o5 with o5|o5;all_goals
   cases hk:re.kids with
   |nil =>
    simp only[zW,simprocAttr,av re,iD,bD,bV,o1,o2,UP,L7,o4,o5,hk,ajV];simp [hr,hk,Re.mZ]
   |cons k l =>
    have hm:k∈re.kids:=by simp [hk]
    have UF:=Re.de hm;have lX:(0:Int)<((l.length+1:Nat):Int):=ae;simp only[zW,simprocAttr,av re,iD,bD,bV,o1,o2,UP,L7,o4,o5,hk,ajR,lX];refine dY (ih k hm ae) ?_;cases fm:k.sK with
    |true =>
     simp only[zW,simprocAttr,bV,fm];simp [hr,hk,Re.mZ,fm]
    |false =>
     simp only[zW,simprocAttr,bV,fm];simp [hr,hk,Re.mZ,fm]
 have o5':¬re.op=5:=λh=>o5 (.inl h);have o9:¬re.op=9:=λh=>o5 (.inr h);simp only[zW,simprocAttr,av re,iD,bD,bV,o1,o2,UP,L7,o4,o5',o9];simp [Re.tG re,o1,o2,o3,o4,o5]
def xC (a b:Int):Int:=if a<0\/b<0 then -1 else min (IntKind.i64.wrap (a+b)) 1000000
def CL (a b:Int):Int:=if a<0\/b<0 then -1 else max a b
def kB (a b:Int):Int:=if a=0\/b=0 then 0 else if a<0\/b<0 then -1 else min (IntKind.i64.wrap (a*b)) 1000000
def afs (l:List (Int×Int)):Int×Int:=l.foldl (λa k=>(xC a.1 k.1,xC a.2 k.2)) (0,0)
def J1 (a k:Int×Int):Int×Int:=(min a.1 k.1,CL a.2 k.2)
def QZ:List (Int×Int)->Int×Int
 |[]=>(0,0)
 |k::l=>l.foldl J1 (J1 k k)
def ME (op mn mx:Int) (l:List (Int×Int)):Int×Int :=
 if op=1 then (1,1)
 else if op=6 then (0,-1)
 else if op=2 then afs l
 else if op=3\/op=10\/op=4\/op=5\/op=9 then
  (if op=4 then (kB (QZ l).1 mn,kB (QZ l).2 mx) else QZ l)
 else (0,0)
mutual
def Re.lens:Re->Int×Int
 |.mk op _ kids mn mx _ _ _=>ME op mn mx (Re.LP kids)
def Re.LP:List Re->List (Int×Int)
 |[]=>[]
 |k::l=>k.lens::Re.LP l
end
theorem Re.L4:∀l:List Re,Re.LP l=l.map Re.lens
 |[]=>by simp [Re.LP]
 |k::l=>by simp [Re.LP,Re.L4 l]
theorem Re.Wu (re:Re):re.lens=ME re.op re.mn re.mx (re.kids.map Re.lens):=by
 cases re;simp [Re.lens,Re.L4,Re.op,Re.mn,Re.mx,Re.kids]
def l7 (f:FuncId):VL.Obj:=⟨0,true,1,[[.cl (.func f) [] [.rf 0 0 0 0]]]⟩
mutual
def Re.dx:Re->Bool
 |.mk _ set kids _ _ _ _ _=>decide (set.length<=1000000000)&&(decide (kids.length<=1000000000)&&Re.N6 kids)
def Re.N6:List Re->Bool
 |[]=>true
 |k::l=>k.dx&&Re.N6 l
end
theorem Re.GY:∀l:List Re,Re.N6 l=l.all Re.dx
 |[]=>rfl
 |k::l=>by simp [Re.N6,Re.GY l]
theorem Re.nY (re:Re):re.dx=true ↔ re.set.length<=1000000000/\re.kids.length<=1000000000/\∀k∈re.kids,k.dx=true:=by
 cases re with
 |mk op set kids mn mx mode n neg=>simp only[Re.dx,aj5,decide_eq_true_eq,Re.GY,aj3,Re.set,Re.kids]
theorem Re.fP {re:Re} (h:re.dx=true):re.set.length<=1000000000/\re.kids.length<=1000000000/\∀k∈re.kids,k.dx=true:=(Re.nY re).1 h
def oB (op mn:Int) (l:List Bool):Bool :=
 if op=0\/op=6\/op=7\/op=8\/op=11 then true
 else if op=2 then l.all id
 else if op=4 then (if mn=0 then true else l.any id)
 else if op=3\/op=10\/op=5\/op=9 then l.any id
 else false
mutual
def Re.fK:Re->Bool
 |.mk op _ kids mn _ _ _ _=>oB op mn (Re.L2 kids)
def Re.L2:List Re->List Bool
 |[]=>[]
 |k::l=>k.fK::Re.L2 l
end
theorem Re.Jo:∀l:List Re,Re.L2 l=l.map Re.fK
 |[]=>by simp [Re.L2]
 |k::l=>by simp [Re.L2,Re.Jo l]
theorem Re.qR (re:Re):re.fK=oB re.op re.mn (re.kids.map Re.fK):=by
 cases re;simp [Re.fK,Re.Jo,Re.op,Re.mn,Re.kids]
def vM (re:Re):Prop:=ar prog 96 [fA re,.rf 0 0 0 0] [l7 96] λv s=>v=bV re.fK/\s=[l7 96]
theorem Wk (re:Re) (ih:∀k∈re.kids,k.dx=true->vM k) (hs:re.dx=true) (o2:re.op=2):vM re:=by
 obtain⟨si,hlen,Ew⟩:=Re.fP hs;have hle:re.fK=(re.kids.map Re.fK).all id:=by rw[Re.qR,o2];rfl
 unfold vM;rw[hle];refine bo func96 ntmps96 results96 1 13519594987718203 ?_;simp only[zJ,simprocAttr,fA,Re.ah re,iD,bD,o2,l7];refine aw (λn e s=>∃i:Nat,n=re.kids.length-i/\i<=re.kids.length/\e 0=fA re/\e 1=.rf 0 0 0 0/\(∀x∈re.kids.take i,x.fK=true)/\e 22=i64 re.kids.length/\e 23=i64 i/\s=[l7 96])
  ⟨_,_,_,bA.refl,0,rfl,ae,by simp [fA,Re.ah re,iD,bD,o2];rfl,rfl,ak,rfl,rfl,rfl⟩ ?_
 rintro n e s ⟨i,rfl,hi,h0,h1,bX,PS,GH,rfl⟩;rcases akd i re.kids.length with az|gx
 ·obtain⟨k,hk⟩:∃k,re.kids[i]?=some k:=cc az;have hm:=List.mem_of_getElem? hk;have UF:=Ew k hm;simp only[zW,simprocAttr,h0,h1,PS,GH,i64,az,l7];refine cu mix [] [(0,[0],[]),(7,[0],[0])] ?_;simp only[zW,simprocAttr,h0,h1,PS,GH,i64,az,hk,fA,Re.ah re,iD,bD];refine ofA (ih k hm UF) ?_;cases fm:k.fK with
  |true =>
   simp only[zW,simprocAttr,h0,h1,PS,GH,i64,l7,bV,fm];refine⟨re.kids.length-(i+1),_,_,ae,bA.refl,i+1,rfl,az,?_,?_,?_,?_,?_,rfl⟩ <;> (try simp only[zU,pZ,jN,oN,oV,reduceIte])
   ·simpa [fA,Re.ah re,iD,bD]using h0
   ·exact h1
   ·intro x hx;rw[bm hk]at hx;rcases List.mem_append.1 hx with hx|hx
    ·exact bX x hx
    ·rw[List.mem_singleton.1 hx];exact fm
   ·exact PS
   ·rw[bG _ ae];rfl
  |false =>
   simp only[zW,simprocAttr,h0,h1,PS,GH,i64,l7,bV,fm];have:(re.kids.map Re.fK).all id=false:=by rw[alg];exact⟨false,List.mem_map.2 ⟨k,hm,fm⟩,ak⟩
   rw[this];all_goals exact dW
 ·have dX:i=re.kids.length:=by omega
  subst dX;rw[akg]at bX;have:(re.kids.map Re.fK).all id=true:=by rw[aj3];intro x hx;obtain⟨y,hy,rfl⟩:=List.mem_map.1 hx;exact bX y hy
  rw[this];simp only[zW,simprocAttr,h0,h1,PS,GH,i64,l7,ak9,bV];all_goals exact dW
theorem Vl (re:Re) (ih:∀k∈re.kids,k.dx=true->vM k) (hs:re.dx=true) (o:(re.op=4/\¬re.mn=0)\/re.op=3\/re.op=10\/re.op=5\/re.op=9):vM re:=by
 obtain⟨si,hlen,Ew⟩:=Re.fP hs;have hle:re.fK=(re.kids.map Re.fK).any id:=by
  rw[Re.qR];rcases o with ⟨o,om⟩|o|o|o|o <;> rw[o]
  ·simp [oB,om]
  all_goals rfl
 unfold vM;rw[hle];obtain⟨o2,om⟩:(re.op=4\/re.op=3\/re.op=10\/re.op=5\/re.op=9)/\(re.op=4->¬re.mn=0):=by rcases o with ⟨o,om⟩|o|o|o|o <;> simp [o] <;> exact om
 rcases o2 with o2|o2|o2|o2|o2;all_goals
  refine bo func96 ntmps96 results96 1 13519594987718203 ?_;simp only[zJ,simprocAttr,fA,Re.ah re,iD,bD,o2,om,l7];refine aw (λn e s=>∃i:Nat,n=re.kids.length-i/\i<=re.kids.length/\e 0=fA re/\e 1=.rf 0 0 0 0/\(∀x∈re.kids.take i,x.fK=false)/\e 52=i64 re.kids.length/\e 53=i64 i/\s=[l7 96])
   ⟨_,_,_,bA.refl,0,rfl,ae,by simp [fA,Re.ah re,iD,bD,o2];rfl,rfl,ak,rfl,rfl,rfl⟩ ?_
  rintro n e s ⟨i,rfl,hi,h0,h1,bX,PS,GH,rfl⟩;rcases akd i re.kids.length with az|gx
  ·obtain⟨k,hk⟩:∃k,re.kids[i]?=some k:=cc az;have hm:=List.mem_of_getElem? hk;have UF:=Ew k hm;simp only[zW,simprocAttr,h0,h1,PS,GH,i64,az,l7];refine cu mix [] [(0,[0],[]),(7,[0],[0])] ?_;simp only[zW,simprocAttr,h0,h1,PS,GH,i64,az,hk,fA,Re.ah re,iD,bD];refine ofA (ih k hm UF) ?_;cases fm:k.fK with
   |false =>
    simp only[zW,simprocAttr,h0,h1,PS,GH,i64,l7,bV,fm];refine⟨re.kids.length-(i+1),_,_,ae,bA.refl,i+1,rfl,az,?_,?_,?_,?_,?_,rfl⟩ <;> (try simp only[zU,pZ,jN,oN,oV,reduceIte])
    ·simpa [fA,Re.ah re,iD,bD,o2]using h0
    ·exact h1
    ·intro x hx;rw[bm hk]at hx;rcases List.mem_append.1 hx with hx|hx
     ·exact bX x hx
     ·rw[List.mem_singleton.1 hx];exact fm
    ·exact PS
    ·rw[bG _ ae];rfl
   |true =>
    simp only[zW,simprocAttr,h0,h1,PS,GH,i64,l7,bV,fm];have:(re.kids.map Re.fK).any id=true:=by rw[List.any_eq_true];exact⟨true,List.mem_map.2 ⟨k,hm,fm⟩,ak⟩
    rw[this];all_goals exact dW
  ·have dX:i=re.kids.length:=by omega
   subst dX;rw[akg]at bX;have:(re.kids.map Re.fK).any id=false:=by rw[List.any_eq_false];intro x hx;obtain⟨y,hy,rfl⟩:=List.mem_map.1 hx;simp [bX y hy]
   rw[this];simp only[zW,simprocAttr,h0,h1,PS,GH,i64,l7,ak9,bV];all_goals exact dW
theorem S8 (re:Re) (o1:¬re.op=2) (o2:¬re.op=3) (o3:¬re.op=10) (o4:re.op=4->re.mn=0) (o5:¬re.op=5) (o6:¬re.op=9):vM re:=by
 unfold vM;by_cases p4:re.op=4
 ·have hle:re.fK=true:=by rw[Re.qR,p4,o4 p4];rfl
  rw[hle];have pm:=o4 p4;refine bo func96 ntmps96 results96 1 13519594987718203 ?_;simp only[zJ,simprocAttr,fA,Re.ah re,iD,bD,p4,pm,l7,bV];all_goals exact dW
 by_cases p:re.op=0\/re.op=6\/re.op=7\/re.op=8\/re.op=11
 ·have hle:re.fK=true:=by rw[Re.qR];simp [oB,p]
  rw[hle];rcases p with p|p|p|p|p;all_goals
   refine bo func96 ntmps96 results96 1 13519594987718203 ?_;simp only[zJ,simprocAttr,fA,Re.ah re,iD,bD,p,l7,bV];all_goals exact dW
 have hle:re.fK=false:=by rw[Re.qR];simp [oB,p,o1,o2,o3,p4,o5,o6]
 rw[hle];have p0:¬re.op=0:=λh=>p (.inl h);have p6:¬re.op=6:=λh=>p (.inr (.inl h));have p7:¬re.op=7:=λh=>p (.inr (.inr (.inl h)));have p8:¬re.op=8:=λh=>p (.inr (.inr (.inr (.inl h))));have p11:¬re.op=11:=λh=>p (.inr (.inr (.inr (.inr h))));refine bo func96 ntmps96 results96 1 13519594987718203 ?_;simp only[zJ,simprocAttr,fA,Re.ah re,iD,bD,o1,o2,o3,p4,o5,o6,p0,p6,p7,p8,p11,l7,bV];all_goals exact dW
theorem WR (re:Re) (hs:re.dx=true):vM re:=by
 revert hs;refine Re.ind (Q:=λre=>re.dx=true->vM re) (λre ih hs=>?_) re;by_cases o2:re.op=2
 ·exact Wk re ih hs o2
 by_cases o:(re.op=4/\¬re.mn=0)\/re.op=3\/re.op=10\/re.op=5\/re.op=9
 ·exact Vl re ih hs o
 ·exact S8 re o2 (λh=>o (.inr (.inl h))) (λh=>o (.inr (.inr (.inl h)))) (λh=>by by_cases hm:re.mn=0;exact hm;exact absurd (.inl ⟨h,hm⟩) o) (λh=>o (.inr (.inr (.inr (.inl h))))) (λh=>o (.inr (.inr (.inr (.inr h)))))
theorem AI (re:Re) (hs:re.dx=true):aM prog 57 [sN re] (bV re.fK):=by refine bo func57 ntmps57 results57 0 15 ?_;simp only[zJ,simprocAttr,av re,iD,bD];refine bE [0] rfl ?_;refine Im (r':=bV re.fK) 1 (WR re hs) (by rw[fA,Re.ah];rfl) rfl rfl rfl rfl ?_;simp only[zJ,simprocAttr,br,ck,aN,aE,aE.go,l7,bV];all_goals exact dW
theorem js (n lim:Nat) (s:List VL.Obj) (ds:List (List D)) (k:Nat) (hk:ds.length<=k):((ds.map λc=>c.map V.d).take k).mapM (λ(e:List V)=>e.mapM (cT n lim s))=some ds:=by rw[akb (by simpa using hk),uq]
theorem Fv (l:List (Int×Int)) (hl:l.length<=1000000000):aM prog 56 [.d (.sl (l.map aT))] (.d (.sl (l.map aT))):=by
 refine bo func56 ntmps56 results56 0 5 ?_;cases l with
 |nil =>
  simp only[zW,simprocAttr,];exact⟨⟨_,rfl⟩,ak,ak⟩
 |cons x l =>
  simp only[zW,simprocAttr,];have he:(List.map V.d (aT x)::List.map (λx=>List.map V.d x) (List.map aT l))=((x::l).map aT).map (λc=>c.map V.d):=rfl;simp only[ajW]at hl;refine⟨⟨_,rfl⟩,?_,⟨ae,ak⟩,?_⟩
  ·rw[he];intro e hm;obtain⟨c,hc,rfl⟩:=List.mem_map.1 hm;obtain⟨y,_,rfl⟩:=List.mem_map.1 hc;rfl
  ·rw[he,js 7 0 _ _ (0+(l.length+1)) ak,sP];rfl
theorem OF (c:aH) (n:Int) (hc:c.length<=1000000000):aM prog 130 [.d (cQ c),i64 n] (.ag [i64 (cK c n).1,i64 (cK c n).2]):=by
 by_cases c1:n<1
 ·have hs:cK c n=(-1,-1):=by simp [cK,c1]
  rw[hs];refine bo func130 ntmps130 results130 0 19 ?_;simp only[zI,simprocAttr,iD,cQ,aT,c1]
 ·by_cases c2:(c.length:Int)<n
  ·have hs:cK c n=(-1,-1):=by simp [cK,c2]
   rw[hs];refine bo func130 ntmps130 results130 0 19 ?_;simp only[zI,simprocAttr,iD,cQ,aT,c1,c2,gt_iff_lt]
  ·have hs:cK c n=c.getD (n-1).toNat (-1,-1):=by rw[cK,bd]
   have w1:IntKind.i64.wrap (n-1)=n-1:=bG _ ae;have az:(n-1).toNat<c.length:=ae;have hg:c[(n-1).toNat]?=some c[(n-1).toNat]:=List.getElem?_eq_getElem az;have b1:0<=n-1:=ae;have b2:n-1<(c.length:Int):=ae;rw[hs,List.getD,hg,ak2];refine bo func130 ntmps130 results130 0 19 ?_;simp only[zI,simprocAttr,iD,cQ,aT,c1,c2,gt_iff_lt,w1,hg,b1,b2]
theorem Wi (c:aH) (n bZ to:Int) (hc:c.length<=1000000000):aM prog 115 [.d (cQ c),i64 n,i64 bZ,i64 to] (.d (cQ (qy c n bZ to))):=by
 have sE:∀e∈(c.map aT).map (λx=>x.map V.d),e.length=2:=λe he=>by obtain⟨x,hx,rfl⟩:=List.mem_map.1 he;obtain⟨p,_,rfl⟩:=List.mem_map.1 hx;rfl
 refine bo func115 ntmps115 results115 0 783 ?_;simp only[zI,simprocAttr,cQ];refine⟨sE,⟨ae,ak⟩,?_⟩;by_cases c1:1<=n
 ·by_cases c2:n<=(c.length:Int)
  ·have w1:IntKind.i64.wrap (n-1)=n-1:=bG _ ae;have az:(n-1).toNat<c.length:=ae;have b1:0<=n-1:=ae;have b2:n-1<(c.length:Int):=ae;have hw:qy c n bZ to=c.set (n-1).toNat (bZ,to):=by rw[qy,be ⟨c1,c2⟩]
   have eO:((c.map aT).map (λx=>x.map V.d)).set (n-1).toNat [i64 bZ,i64 to]=((c.set (n-1).toNat (bZ,to)).map aT).map (λx=>x.map V.d):=by rw[akT,akT];rfl
   have hgc:c[(n-1).toNat]?=some c[(n-1).toNat]:=List.getElem?_eq_getElem az;rw[hw];simp only[zI,simprocAttr,ajT,c1,c2,w1,az,b1,b2,hgc,aT];simp only[i64]at eO;rw[eO,js 7 0 _ _ _ ak,be ak];rfl
  ·have hw:qy c n bZ to=c:=by rw[qy,bd]
   rw[hw];simp only[zI,simprocAttr,ajT,c1,c2];rw[js 7 0 _ _ _ ak,be ak];rfl
 ·have hw:qy c n bZ to=c:=by rw[qy,bd]
  rw[hw];simp only[zI,simprocAttr,ajT,c1];rw[js 7 0 _ _ _ ak,be ak];rfl
theorem V1 (n:Int) (hn:n<=1000000):aM prog 91 [i64 n] (.d (cQ (List.replicate n.toNat (-1,-1)))):=by
 refine bo func91 ntmps91 results91 0 29 ?_;simp only[IM,EY,E3,simprocAttr,qt,i64];refine aw (λm e s=>∃i:Nat,m=n.toNat-i/\i<=n.toNat/\e 0=i64 n/\e 4=i64 i/\Acc [] 2 (e 3) s ((List.replicate i (-1,-1)).map aT))
  ⟨_,_,_,bA.refl,0,rfl,ae,rfl,rfl,.inl ⟨rfl,rfl⟩⟩ ?_
 rintro m e s ⟨i,rfl,hi,h0,h4,oI⟩;rcases akd i n.toNat with az|gx
 ·have aA:(i:Int)<n:=by omega
  simp only[IM,EY,E3,simprocAttr,qt,i64,h0,h4,aA];refine oI.append YZ rfl aU aU (by intro y hy;obtain⟨z,_,rfl⟩:=List.mem_map.1 hy;rfl) ak ak (by simp only[ajM,akK,ajW,ajX];omega) (λv' s' Je=>?_);simp only[IM,EY,E3,simprocAttr,qt,i64,h0,h4];refine⟨n.toNat-(i+1),_,_,ae,bA.refl,i+1,rfl,az,?_,?_,?_⟩ <;> (try simp only[zU,pZ,jN,oN,oV,reduceIte])
  ·exact h0
  ·rw[bG _ ae];rfl
  ·rw[List.replicate_succ',akF];exact Je
 ·have dX:i=n.toNat:=by omega
  subst dX;have aA:¬(n.toNat:Int)<n:=ae;simp only[IM,EY,E3,simprocAttr,qt,i64,h0,h4,aA];rw[oI.frz ak];rfl
theorem tM {α:Type} (l:List α) (f:α->D) (n:Nat):((l.map λx=>[V.d (f x)]).all λe=>e.all (aj n))=true:=by rw[aj3];intro e he;obtain⟨x,_,rfl⟩:=List.mem_map.1 he;rfl
def dB (g0:Nat) (t:List Int) (most F:Int) (st:bO):VL.Obj :=
 ⟨g0,true,7,[[.d (ao t),i64 most,i64 F,i64 st.steps,bV st.empty,.so 1 st.ends.length 0 st.ends.length,.so 2 st.ends.length 0 st.ai.length]]⟩
def bY (g0:Nat) (t:List Int) (most F:Int) (st:bO):List VL.Obj :=
 [dB g0 t most F st,⟨st.ends.length,true,1,st.ends.map λx=>[V.d (iD x)]⟩,⟨st.ends.length,true,1,st.ai.map λc=>[V.d (cQ c)]⟩]
theorem WI (g0:Nat) (t:List Int) (most F:Int) (st:bO) (h0:0<=st.steps) (h1:st.steps<=10000000000000) :
  ar prog 128 [.rf 0 g0 0 0] (bY g0 t most F st) λv s=>v=bV (!(st.step F).empty)/\s=bY g0 t most F (st.step F):=by
 have w1:IntKind.i64.wrap (st.steps+1)=st.steps+1:=bG _ ae;unfold bY dB bO.step;by_cases c:F<st.steps+1
 ·refine bo func128 ntmps128 results128 3 5 ?_;simp only[zI,simprocAttr,bV,w1];refine cu mix [] [] ?_;simp only[zI,simprocAttr,bV,w1,gt_iff_lt,c,Bool.or_true];simp only[tM,akV]
 ·refine bo func128 ntmps128 results128 3 5 ?_;simp only[zI,simprocAttr,bV,w1];refine cu mix [] [] ?_;simp only[zI,simprocAttr,bV,w1,gt_iff_lt,c,ce c,akw];simp only[tM,akV]
end Go.Proofs.YtjjfioalgbecmaaGreat
