/- A part of the proof. -/
import Derived.Test.YtjjfioalgbecmaaGreatOA11
set_option linter.unusedSimpArgs false
set_option linter.unusedVariables false
open Nat renaming reduceShiftRight → qa, reduceMod → qe, reduceEqDiff → Fp, reduceAdd → Fq, reduceBEq → Ft
set_option maxRecDepth 100000
set_option maxHeartbeats 80000000
namespace Go.Proofs.YtjjfioalgbecmaaGreat
open Go.VL Go.Proofs.Tryz
structure Mk where
 l:List Int
 pos:Int
 dH:Int
 left:Int
 aj:Int
def lB (m:Mk):VL.Obj:=⟨0,true,5,[[.d (ar m.l),i64 m.pos,i64 m.dH,i64 m.left,i64 m.aj]]⟩
def lA:V:=.rf 0 0 0 0
structure Mk.ok (m:Mk):Prop where
 l:∀x∈m.l,jD x
 pos:0<=m.pos/\m.pos<=1000000000
 left:-1000000000<=m.left/\m.left<=1000000000
 aj:0<=m.aj/\m.aj<=1000000000
def Mk.next (m:Mk) (n:Int):Int×Mk:=(pick m.l m.pos n,{ m with pos:=m.pos+1 })
theorem gT (m:Mk) (hl:∀x∈m.l,jD x) (hp:0<=m.pos/\m.pos<=1000000000) (n:Int) (hn:1<=n):av prog 109 [lA,i64 n] [lB m] λv s=>v=i64 (m.next n).1/\s=[lB (m.next n).2]:=by
 have w1:IntKind.i64.wrap (m.pos+1)=m.pos+1:=bK _ ae;have w2:IntKind.i64.wrap (m.pos+1-1)=m.pos:=by rw[bK _ ae];omega
 refine br func109 ntmps109 results109 1 19 ?_;simp only[zJ,simprocAttr,lA,lB,w1,w2];refine cP mix [] [] ?_;simp only[zJ,simprocAttr,lA,lB,w1,w2];refine HD (CW m.l hl m.pos n hn) ?_;simp only[zJ,simprocAttr,lA,lB,w1,w2,Mk.next]
def rH:List (List (Int×Int)):=[[(97,97)],[(98,98)],[(97,98)],[(99,99)],[(97,99)],[(0,96),(98,255)],[(10,10),(97,97)],[]]
def Re.U7 (set:List (Int×Int)):Re:=.mk 1 set [] 0 0 0 0 false
def Mk.set (m:Mk):Re×Mk :=
 let (k,m1):=m.next 15
 (Re.U7 ((rH[(k / 2).toNat]?).getD []),m1)
theorem cH (l:List Int) (i m:Int) (hm:1<=m):0<=pick l i m/\pick l i m<m:=by
 unfold pick EE;split
 ·omega
 ·split
  ·rename_i h;have h1:0<=-(l[i.toNat]?.getD 0+1):=ae;exact⟨Int.tmod_nonneg _ h1,Int.tmod_lt_of_pos _ ae⟩
  ·rename_i h;exact⟨Int.tmod_nonneg _ ae,Int.tmod_lt_of_pos _ ae⟩
theorem yI (m:Mk) (hl:∀x∈m.l,jD x) (hp:0<=m.pos/\m.pos<=1000000000):av prog 110 [lA] [lB m] λv s=>v=lI m.set.1/\s=[lB m.set.2]:=by
 have hk:=cH m.l m.pos 15 ae;have hd:(pick m.l m.pos 15).tdiv 2=pick m.l m.pos 15 / 2:=by rw[Int.tdiv_eq_ediv_of_nonneg hk.1]
 have w1:IntKind.i64.wrap (pick m.l m.pos 15 / 2)=pick m.l m.pos 15 / 2:=bK _ ae;refine br func110 ntmps110 results110 1 13 ?_;simp only[zJ,simprocAttr,lA];refine rZ (gT m hl hp 15 ae) ?_;have hc:pick m.l m.pos 15 / 2=0\/pick m.l m.pos 15 / 2=1\/pick m.l m.pos 15 / 2=2\/pick m.l m.pos 15 / 2=3\/pick m.l m.pos 15 / 2=4\/pick m.l m.pos 15 / 2=5\/pick m.l m.pos 15 / 2=6\/pick m.l m.pos 15 / 2=7:=ae;simp only[zJ,simprocAttr,lA,Mk.next,hd,w1];rcases hc with hc|hc|hc|hc|hc|hc|hc|hc <;> (simp only[zW,simprocAttr,hc,Mk.set,Mk.next,rH,Re.U7,Int.toNat_zero,lI,Re.cells];first|exact⟨ae,rfl,rfl⟩|exact⟨rfl,rfl⟩|rfl)
mutual
def Re.sQ:Re->Bool
 |.mk op _ kids mn _ _ _ _=>if op=1 then false else if op=2 then Re.ri kids else if op=3\/op=10 then Re.pt kids else if op=4 then decide (mn<=0)||Re.qb kids else if op=5\/op=9 then Re.qb kids else true
def Re.ri:List Re->Bool
 |[]=>true
 |k::l=>k.sQ&&Re.ri l
def Re.pt:List Re->Bool
 |[]=>false
 |k::l=>k.sQ||Re.pt l
def Re.qb:List Re->Bool
 |[]=>false
 |k::_=>k.sQ
end
theorem Re.jr (re:Re):re.sQ=if re.op=1 then false else if re.op=2 then Re.ri re.kids else if re.op=3\/re.op=10 then Re.pt re.kids else if re.op=4 then decide (re.mn<=0)||Re.qb re.kids else if re.op=5\/re.op=9 then Re.qb re.kids else true:=by
 cases re;simp only[Re.sQ,Re.op,Re.kids,Re.mn];rfl
theorem Re.sU:∀l:List Re,Re.ri l=l.all Re.sQ
 |[]=>rfl
 |k::l=>by simp [Re.ri,Re.sU l]
theorem Re.sK:∀l:List Re,Re.pt l=l.any Re.sQ
 |[]=>rfl
 |k::l=>by simp [Re.pt,Re.sK l]
theorem cK {α:Type}{l:List α}{i:Nat}{k x:α} (h:l[i]?=some k) (hx:x∈l.take (i+1)):x∈l.take i\/x=k:=by rw[bn h]at hx;simpa using hx
theorem iF (re:Re):re.size<=1000000000->aS prog 75 [lI re] (bV re.sQ):=by
 induction re using Re.ind with
 |h re ih =>
 intro hs;have hlen:=Re.mX re.kids;have gr:=Re.size_eq re;refine br func75 ntmps75 results75 0 576460752336978015 ?_;by_cases o1:re.op=1
 ·simp only[zW,simprocAttr,au re,iD,bD,bV,o1,Re.jr re]
 by_cases o2:re.op=2
 ·simp only[zW,simprocAttr,au re,iD,bD,bV,o2];refine ay (λn e s=>∃i:Nat,n=re.kids.length-i/\i<=re.kids.length/\e 1=.rf 0 0 0 0/\e 3=i64 i/\(∀x∈re.kids.take i,x.sQ=true)/\s=[⟨0,true,8,[re.cells.map .d]⟩]) ⟨_,_,_,bO.refl,0,rfl,aq,rfl,rfl,aq,by simp [Re.ah re,iD,bD,o2]⟩ ?_;rintro n e s ⟨i,rfl,hi,h1,h3,hn,rfl⟩;rcases alw i re.kids.length with aE|gE
  ·obtain⟨k,hk⟩:∃k,re.kids[i]?=some k:=cb aE;have hm:=List.mem_of_getElem? hk;have IF:=Re.bZ hm;simp only[zW,simprocAttr,Re.ah re,iD,bD,h1,h3,i64,aE,hk];refine dk (ih k hm ae) ?_;cases ej:k.sQ with
   |false =>
    simp only[zW,simprocAttr,bV,ej];have:Re.ri re.kids=false:=by rw[Re.sU,amz];exact⟨k,hm,by simp [ej]⟩
    simp [Re.jr re,o2,this]
   |true =>
    exact Zbc
  ·have eg:i=re.kids.length:=by omega
   subst eg;simp only[zW,simprocAttr,Re.ah re,iD,bD,h1,h3,i64,al5,bV];have:Re.ri re.kids=true:=by rw[Re.sU,als];simpa using hn
   simp [Re.jr re,o2,this]
 by_cases o3:re.op=3\/re.op=10
 ·have hr:re.sQ=Re.pt re.kids:=by simp [Re.jr re,o1,o2,o3]
  rcases o3 with o3|o3;all_goals
   simp only[zW,simprocAttr,au re,iD,bD,bV,o1,o2,o3];refine ay (λn e s=>∃i:Nat,n=re.kids.length-i/\i<=re.kids.length/\e 1=.rf 0 0 0 0/\e 4=i64 i/\(∀x∈re.kids.take i,x.sQ=false)/\s=[⟨0,true,8,[re.cells.map .d]⟩]) ⟨_,_,_,bO.refl,0,rfl,aq,rfl,rfl,aq,by simp [Re.ah re,iD,bD,o3]⟩ ?_;rintro n e s ⟨i,rfl,hi,h1,h3,hn,rfl⟩;rcases alw i re.kids.length with aE|gE
   ·obtain⟨k,hk⟩:∃k,re.kids[i]?=some k:=cb aE;have hm:=List.mem_of_getElem? hk;have IF:=Re.bZ hm;simp only[zW,simprocAttr,Re.ah re,iD,bD,h1,h3,i64,aE,hk];refine dk (ih k hm ae) ?_;cases ej:k.sQ with
    |true =>
     simp only[zW,simprocAttr,bV,ej];have:Re.pt re.kids=true:=by rw[Re.sK,List.any_eq_true];exact⟨k,hm,by simp [ej]⟩
     simp [hr,this]
    |false =>
     exact Zbc
   ·have eg:i=re.kids.length:=by omega
    subst eg;simp only[zW,simprocAttr,Re.ah re,iD,bD,h1,h3,i64,al5,bV];have:Re.pt re.kids=false:=by rw[Re.sK,List.any_eq_false];simpa using hn
    simp [hr,this]
 have Yu:¬re.op=3:=λh=>o3 (.inl h);have yL:¬re.op=10:=λh=>o3 (.inr h);by_cases o4:re.op=4
 ·have hr:re.sQ=(decide (re.mn<=0)||Re.qb re.kids):=by simp [Re.jr re,o4]
  by_cases hmn:re.mn<=0
  ·simp only[zW,simprocAttr,au re,iD,bD,bV,o1,o2,Yu,yL,o4,hmn];simp [hr,hmn]
  cases hk:re.kids with
  |nil =>
   simp only[zW,simprocAttr,au re,iD,bD,bV,o1,o2,Yu,yL,o4,hmn,hk,ak9];simp [hr,hmn,hk,Re.qb]
  |cons k l =>
   have hm:k∈re.kids:=by simp [hk]
   have IF:=Re.bZ hm;have mb:(0:Int)<((l.length+1:Nat):Int):=ae;simp only[zW,simprocAttr,au re,iD,bD,bV,o1,o2,Yu,yL,o4,hmn,hk,ak8,mb];refine dk (ih k hm ae) ?_;cases ej:k.sQ with
   |true =>
    exact ZdF
   |false =>
    exact ZdF
 by_cases o5:re.op=5\/re.op=9
 ·have hr:re.sQ=Re.qb re.kids:=by simp [Re.jr re,o1,o2,o3,o4,o5]
  rcases o5 with o5|o5;all_goals
   cases hk:re.kids with
   |nil =>
    simp only[zW,simprocAttr,au re,iD,bD,bV,o1,o2,Yu,yL,o4,o5,hk,ak9];simp [hr,hk,Re.qb]
   |cons k l =>
    have hm:k∈re.kids:=by simp [hk]
    have IF:=Re.bZ hm;have mb:(0:Int)<((l.length+1:Nat):Int):=ae;simp only[zW,simprocAttr,au re,iD,bD,bV,o1,o2,Yu,yL,o4,o5,hk,ak8,mb];refine dk (ih k hm ae) ?_;cases ej:k.sQ with
    |true =>
     simp only[zW,simprocAttr,bV,ej];simp [hr,hk,Re.qb,ej]
    |false =>
     simp only[zW,simprocAttr,bV,ej];simp [hr,hk,Re.qb,ej]
 have o5':¬re.op=5:=λh=>o5 (.inl h);have o9:¬re.op=9:=λh=>o5 (.inr h);simp only[zW,simprocAttr,au re,iD,bD,bV,o1,o2,Yu,yL,o4,o5',o9];simp [Re.jr re,o1,o2,o3,o4,o5]
def yV (a b:Int):Int:=if a<0\/b<0 then -1 else min (IntKind.i64.wrap (a+b)) 1000000
def D5 (a b:Int):Int:=if a<0\/b<0 then -1 else max a b
def kU (a b:Int):Int:=if a=0\/b=0 then 0 else if a<0\/b<0 then -1 else min (IntKind.i64.wrap (a*b)) 1000000
def agV (l:List (Int×Int)):Int×Int:=l.foldl (λa k=>(yV a.1 k.1,yV a.2 k.2)) (0,0)
def Gi (a k:Int×Int):Int×Int:=(min a.1 k.1,D5 a.2 k.2)
def R8:List (Int×Int)->Int×Int
 |[]=>(0,0)
 |k::l=>l.foldl Gi (Gi k k)
def NJ (op mn mx:Int) (l:List (Int×Int)):Int×Int :=
 if op=1 then (1,1)
 else if op=6 then (0,-1)
 else if op=2 then agV l
 else if op=3\/op=10\/op=4\/op=5\/op=9 then
  (if op=4 then (kU (R8 l).1 mn,kU (R8 l).2 mx) else R8 l)
 else (0,0)
mutual
def Re.lens:Re->Int×Int
 |.mk op _ kids mn mx _ _ _=>NJ op mn mx (Re.MR kids)
def Re.MR:List Re->List (Int×Int)
 |[]=>[]
 |k::l=>k.lens::Re.MR l
end
theorem Re.M7:∀l:List Re,Re.MR l=l.map Re.lens
 |[]=>by simp [Re.MR]
 |k::l=>by simp [Re.MR,Re.M7 l]
theorem Re.Xy (re:Re):re.lens=NJ re.op re.mn re.mx (re.kids.map Re.lens):=by
 cases re;simp [Re.lens,Re.M7,Re.op,Re.mn,Re.mx,Re.kids]
def mS (f:FuncId):VL.Obj:=⟨0,true,1,[[.cl (.func f) [] [.rf 0 0 0 0]]]⟩
mutual
def Re.df:Re->Bool
 |.mk _ set kids _ _ _ _ _=>decide (set.length<=1000000000)&&(decide (kids.length<=1000000000)&&Re.O9 kids)
def Re.O9:List Re->Bool
 |[]=>true
 |k::l=>k.df&&Re.O9 l
end
theorem Re.HW:∀l:List Re,Re.O9 l=l.all Re.df
 |[]=>rfl
 |k::l=>by simp [Re.O9,Re.HW l]
theorem Re.ph (re:Re):re.df=true ↔ re.set.length<=1000000000/\re.kids.length<=1000000000/\∀k∈re.kids,k.df=true:=by
 cases re with
 |mk op set kids mn mx mode n neg=>simp only[Re.df,alo,decide_eq_true_eq,Re.HW,als,Re.set,Re.kids]
theorem Re.gK {re:Re} (h:re.df=true):re.set.length<=1000000000/\re.kids.length<=1000000000/\∀k∈re.kids,k.df=true:=(Re.ph re).1 h
def pU (op mn:Int) (l:List Bool):Bool :=
 if op=0\/op=6\/op=7\/op=8\/op=11 then true
 else if op=2 then l.all id
 else if op=4 then (if mn=0 then true else l.any id)
 else if op=3\/op=10\/op=5\/op=9 then l.any id
 else false
mutual
def Re.iM:Re->Bool
 |.mk op _ kids mn _ _ _ _=>pU op mn (Re.M4 kids)
def Re.M4:List Re->List Bool
 |[]=>[]
 |k::l=>k.iM::Re.M4 l
end
variable{g0:Nat}{ai:Int}{F:Int}{st:bE}{st':bE}{t:List Int}{b:Bool}{c:aC}{r:Option (Int×aC)}{n:Nat}{g:Goal}{i:Int}{fi:Int}{kind:Int}{re:Re}{k:Int}
theorem Re.Kt:∀l:List Re,Re.M4 l=l.map Re.iM
 |[]=>by simp [Re.M4]
 |k::l=>by simp [Re.M4,Re.Kt l]
theorem Re.sh (re:Re):re.iM=pU re.op re.mn (re.kids.map Re.iM):=by
 cases re;simp [Re.iM,Re.Kt,Re.op,Re.mn,Re.kids]
def xq (re:Re):Prop:=av prog 96 [fY re,.rf 0 0 0 0] [mS 96] λv s=>v=bV re.iM/\s=[mS 96]
theorem Xl (re:Re) (ih:∀k∈re.kids,k.df=true->xq k) (hs:re.df=true) (o2:re.op=2):xq re:=by
 obtain⟨rm,hlen,JR⟩:=Re.gK hs;have hle:re.iM=(re.kids.map Re.iM).all id:=by rw[Re.sh,o2];rfl
 unfold xq;rw[hle];refine br func96 ntmps96 results96 1 13519594987718203 ?_;simp only[zJ,simprocAttr,fY,Re.ah re,iD,bD,o2,mS];refine ay (λn e s=>∃i:Nat,n=re.kids.length-i/\i<=re.kids.length/\e 0=fY re/\e 1=.rf 0 0 0 0/\(∀x∈re.kids.take i,x.iM=true)/\e 22=i64 re.kids.length/\e 23=i64 i/\s=[mS 96])
  ⟨_,_,_,bO.refl,0,rfl,ae,by simp [fY,Re.ah re,iD,bD,o2];rfl,rfl,aq,rfl,rfl,rfl⟩ ?_
 rintro n e s ⟨i,rfl,hi,h0,h1,bR,zd,UK,rfl⟩;rcases alw i re.kids.length with aE|gE
 ·obtain⟨k,hk⟩:∃k,re.kids[i]?=some k:=cb aE;have hm:=List.mem_of_getElem? hk;have IF:=JR k hm;simp only[zW,simprocAttr,h0,h1,zd,UK,i64,aE,mS];refine cP mix [] [(0,[0],[]),(7,[0],[0])] ?_;simp only[zW,simprocAttr,h0,h1,zd,UK,i64,aE,hk,fY,Re.ah re,iD,bD];refine ofA (ih k hm IF) ?_;cases ej:k.iM with
  |true =>
   simp only[zW,simprocAttr,h0,h1,zd,UK,i64,mS,bV,ej];refine⟨re.kids.length-(i+1),_,_,ae,bO.refl,i+1,rfl,aE,?_,?_,?_,?_,?_,rfl⟩ <;> (try simp only[zU,Ft,qa,qe,Fp,reduceIte])
   ·simpa [fY,Re.ah re,iD,bD]using h0
   ·exact h1
   ·exact ZbZ
   ·exact zd
   ·rw[bK _ ae];rfl
  |false =>
   simp only[zW,simprocAttr,h0,h1,zd,UK,i64,mS,bV,ej];have:(re.kids.map Re.iM).all id=false:=by rw[amz];exact⟨false,List.mem_map.2 ⟨k,hm,ej⟩,aq⟩
   rw[this];all_goals exact dX
 ·have eg:i=re.kids.length:=by omega
  subst eg;rw[alr]at bR;have:(re.kids.map Re.iM).all id=true:=by rw[als];intro x hx;obtain⟨y,hy,rfl⟩:=List.mem_map.1 hx;exact bR y hy
  rw[this];simp only[zW,simprocAttr,h0,h1,zd,UK,i64,mS,al5,bV];all_goals exact dX
theorem Wn (re:Re) (ih:∀k∈re.kids,k.df=true->xq k) (hs:re.df=true) (o:(re.op=4/\¬re.mn=0)\/re.op=3\/re.op=10\/re.op=5\/re.op=9):xq re:=by
 obtain⟨rm,hlen,JR⟩:=Re.gK hs;have hle:re.iM=(re.kids.map Re.iM).any id:=by
  rw[Re.sh];rcases o with ⟨o,om⟩|o|o|o|o <;> rw[o]
  ·simp [pU,om]
  all_goals rfl
 unfold xq;rw[hle];obtain⟨o2,om⟩:(re.op=4\/re.op=3\/re.op=10\/re.op=5\/re.op=9)/\(re.op=4->¬re.mn=0):=by rcases o with ⟨o,om⟩|o|o|o|o <;> simp [o] <;> exact om
 rcases o2 with o2|o2|o2|o2|o2;all_goals
  refine br func96 ntmps96 results96 1 13519594987718203 ?_;simp only[zJ,simprocAttr,fY,Re.ah re,iD,bD,o2,om,mS];refine ay (λn e s=>∃i:Nat,n=re.kids.length-i/\i<=re.kids.length/\e 0=fY re/\e 1=.rf 0 0 0 0/\(∀x∈re.kids.take i,x.iM=false)/\e 52=i64 re.kids.length/\e 53=i64 i/\s=[mS 96])
   ⟨_,_,_,bO.refl,0,rfl,ae,by simp [fY,Re.ah re,iD,bD,o2];rfl,rfl,aq,rfl,rfl,rfl⟩ ?_
  rintro n e s ⟨i,rfl,hi,h0,h1,bR,zd,UK,rfl⟩;rcases alw i re.kids.length with aE|gE
  ·obtain⟨k,hk⟩:∃k,re.kids[i]?=some k:=cb aE;have hm:=List.mem_of_getElem? hk;have IF:=JR k hm;simp only[zW,simprocAttr,h0,h1,zd,UK,i64,aE,mS];refine cP mix [] [(0,[0],[]),(7,[0],[0])] ?_;simp only[zW,simprocAttr,h0,h1,zd,UK,i64,aE,hk,fY,Re.ah re,iD,bD];refine ofA (ih k hm IF) ?_;cases ej:k.iM with
   |false =>
    simp only[zW,simprocAttr,h0,h1,zd,UK,i64,mS,bV,ej];refine⟨re.kids.length-(i+1),_,_,ae,bO.refl,i+1,rfl,aE,?_,?_,?_,?_,?_,rfl⟩ <;> (try simp only[zU,Ft,qa,qe,Fp,reduceIte])
    ·simpa [fY,Re.ah re,iD,bD,o2]using h0
    ·exact h1
    ·exact ZbZ
    ·exact zd
    ·rw[bK _ ae];rfl
   |true =>
    simp only[zW,simprocAttr,h0,h1,zd,UK,i64,mS,bV,ej];have:(re.kids.map Re.iM).any id=true:=by rw[List.any_eq_true];exact⟨true,List.mem_map.2 ⟨k,hm,ej⟩,aq⟩
    rw[this];all_goals exact dX
  ·have eg:i=re.kids.length:=by omega
   subst eg;rw[alr]at bR;have:(re.kids.map Re.iM).any id=false:=by rw[List.any_eq_false];intro x hx;obtain⟨y,hy,rfl⟩:=List.mem_map.1 hx;simp [bR y hy]
   rw[this];simp only[zW,simprocAttr,h0,h1,zd,UK,i64,mS,al5,bV];all_goals exact dX
theorem Uh (re:Re) (o1:¬re.op=2) (o2:¬re.op=3) (o3:¬re.op=10) (o4:re.op=4->re.mn=0) (o5:¬re.op=5) (o6:¬re.op=9):xq re:=by
 unfold xq;by_cases p4:re.op=4
 ·have hle:re.iM=true:=by rw[Re.sh,p4,o4 p4];rfl
  rw[hle];have pm:=o4 p4;refine br func96 ntmps96 results96 1 13519594987718203 ?_;simp only[zJ,simprocAttr,fY,Re.ah re,iD,bD,p4,pm,mS,bV];all_goals exact dX
 by_cases p:re.op=0\/re.op=6\/re.op=7\/re.op=8\/re.op=11
 ·have hle:re.iM=true:=by rw[Re.sh];simp [pU,p]
  rw[hle];rcases p with p|p|p|p|p;all_goals
   refine br func96 ntmps96 results96 1 13519594987718203 ?_;simp only[zJ,simprocAttr,fY,Re.ah re,iD,bD,p,mS,bV];all_goals exact dX
 have hle:re.iM=false:=by rw[Re.sh];simp [pU,p,o1,o2,o3,p4,o5,o6]
 rw[hle];have p0:¬re.op=0:=λh=>p (.inl h);have p6:¬re.op=6:=λh=>p (.inr (.inl h));have p7:¬re.op=7:=λh=>p (.inr (.inr (.inl h)));have p8:¬re.op=8:=λh=>p (.inr (.inr (.inr (.inl h))));have p11:¬re.op=11:=λh=>p (.inr (.inr (.inr (.inr h))));refine br func96 ntmps96 results96 1 13519594987718203 ?_;simp only[zJ,simprocAttr,fY,Re.ah re,iD,bD,o1,o2,o3,p4,o5,o6,p0,p6,p7,p8,p11,mS,bV];all_goals exact dX
theorem XW (re:Re) (hs:re.df=true):xq re:=by
 revert hs;refine Re.ind (Q:=λre=>re.df=true->xq re) (λre ih hs=>?_) re;by_cases o2:re.op=2
 ·exact Xl re ih hs o2
 by_cases o:(re.op=4/\¬re.mn=0)\/re.op=3\/re.op=10\/re.op=5\/re.op=9
 ·exact Wn re ih hs o
 ·exact Uh re o2 (λh=>o (.inr (.inl h))) (λh=>o (.inr (.inr (.inl h)))) (λh=>by by_cases hm:re.mn=0;exact hm;exact absurd (.inl ⟨h,hm⟩) o) (λh=>o (.inr (.inr (.inr (.inl h))))) (λh=>o (.inr (.inr (.inr (.inr h)))))
theorem KG (re:Re) (hs:re.df=true):aS prog 57 [lI re] (bV re.iM):=by refine br func57 ntmps57 results57 0 15 ?_;simp only[zJ,simprocAttr,au re,iD,bD];refine bC [0] rfl ?_;refine Da (r':=bV re.iM) 1 (XW re hs) (by rw[fY,Re.ah];rfl) rfl rfl rfl rfl ?_;simp only[zJ,simprocAttr,bI,bU,ba,aI,aI.go,mS,bV];all_goals exact dX
theorem fI (n bM:Nat) (s:List VL.Obj) (ds:List (List D)) (k:Nat) (hk:ds.length<=k):((ds.map λc=>c.map V.d).take k).mapM (λ(e:List V)=>e.mapM (cJ n bM s))=some ds:=by rw[aln (by simpa using hk),vz]
theorem GD (l:List (Int×Int)) (hl:l.length<=1000000000):aS prog 56 [.d (.sl (l.map aU))] (.d (.sl (l.map aU))):=by
 refine br func56 ntmps56 results56 0 5 ?_;cases l with
 |nil =>
  simp only[zW,simprocAttr,];exact⟨⟨_,rfl⟩,aq,aq⟩
 |cons x l =>
  simp only[zW,simprocAttr,];have he:(List.map V.d (aU x)::List.map (λx=>List.map V.d x) (List.map aU l))=((x::l).map aU).map (λc=>c.map V.d):=rfl;simp only[alg]at hl;refine⟨⟨_,rfl⟩,?_,⟨ae,aq⟩,?_⟩
  ·rw[he];intro e hm;obtain⟨c,hc,rfl⟩:=List.mem_map.1 hm;obtain⟨y,_,rfl⟩:=List.mem_map.1 hc;rfl
  ·rw[he,fI 7 0 _ _ (0+(l.length+1)) aq,rY];rfl
theorem PK (c:aC) (n:Int) (hc:c.length<=1000000000):aS prog 130 [.d (bS c),i64 n] (.ag [i64 (ct c n).1,i64 (ct c n).2]):=by
 by_cases c1:n<1
 ·have hs:ct c n=(-1,-1):=by simp [ct,c1]
  rw[hs];refine br func130 ntmps130 results130 0 19 ?_;simp only[zI,simprocAttr,iD,bS,aU,c1]
 ·by_cases c2:(c.length:Int)<n
  ·have hs:ct c n=(-1,-1):=by simp [ct,c2]
   rw[hs];refine br func130 ntmps130 results130 0 19 ?_;simp only[zI,simprocAttr,iD,bS,aU,c1,c2,gt_iff_lt]
  ·have hs:ct c n=c.getD (n-1).toNat (-1,-1):=by rw[ct,bm]
   have w1:IntKind.i64.wrap (n-1)=n-1:=bK _ ae;have aE:(n-1).toNat<c.length:=ae;have hg:c[(n-1).toNat]?=some c[(n-1).toNat]:=List.getElem?_eq_getElem aE;have b1:0<=n-1:=ae;have b2:n-1<(c.length:Int):=ae;rw[hs,List.getD,hg,amk];refine br func130 ntmps130 results130 0 19 ?_;simp only[zI,simprocAttr,iD,bS,aU,c1,c2,gt_iff_lt,w1,hg,b1,b2]
theorem Xj (c:aC) (n fi to:Int) (hc:c.length<=1000000000):aS prog 115 [.d (bS c),i64 n,i64 fi,i64 to] (.d (bS (mR c n fi to))):=by
 have uj:∀e∈(c.map aU).map (λx=>x.map V.d),e.length=2:=λe he=>by obtain⟨x,hx,rfl⟩:=List.mem_map.1 he;obtain⟨p,_,rfl⟩:=List.mem_map.1 hx;rfl
 refine br func115 ntmps115 results115 0 783 ?_;simp only[zI,simprocAttr,bS];refine⟨uj,⟨ae,aq⟩,?_⟩;by_cases c1:1<=n
 ·by_cases c2:n<=(c.length:Int)
  ·have w1:IntKind.i64.wrap (n-1)=n-1:=bK _ ae;have aE:(n-1).toNat<c.length:=ae;have b1:0<=n-1:=ae;have b2:n-1<(c.length:Int):=ae;have hw:mR c n fi to=c.set (n-1).toNat (fi,to):=by rw[mR,be ⟨c1,c2⟩]
   have fB:((c.map aU).map (λx=>x.map V.d)).set (n-1).toNat [i64 fi,i64 to]=((c.set (n-1).toNat (fi,to)).map aU).map (λx=>x.map V.d):=by rw[ams,ams];rfl
   have hgc:c[(n-1).toNat]?=some c[(n-1).toNat]:=List.getElem?_eq_getElem aE;rw[hw];simp only[zI,simprocAttr,alc,c1,c2,w1,aE,b1,b2,hgc,aU];simp only[i64]at fB;rw[fB,fI 7 0 _ _ _ aq,be aq];rfl
  ·have hw:mR c n fi to=c:=by rw[mR,bm]
   rw[hw];simp only[zI,simprocAttr,alc,c1,c2];rw[fI 7 0 _ _ _ aq,be aq];rfl
 ·have hw:mR c n fi to=c:=by rw[mR,bm]
  rw[hw];simp only[zI,simprocAttr,alc,c1];rw[fI 7 0 _ _ _ aq,be aq];rfl
theorem W5 (n:Int) (hn:n<=1000000):aS prog 91 [i64 n] (.d (bS (List.replicate n.toNat (-1,-1)))):=by
 refine br func91 ntmps91 results91 0 29 ?_;simp only[JT,F6,F7,simprocAttr,rJ,i64];refine ay (λm e s=>∃i:Nat,m=n.toNat-i/\i<=n.toNat/\e 0=i64 n/\e 4=i64 i/\Acc [] 2 (e 3) s ((List.replicate i (-1,-1)).map aU))
  ⟨_,_,_,bO.refl,0,rfl,ae,rfl,rfl,.inl ⟨rfl,rfl⟩⟩ ?_
 rintro m e s ⟨i,rfl,hi,h0,h4,kf⟩;rcases alw i n.toNat with aE|gE
 ·have aH:(i:Int)<n:=by omega
  simp only[JT,F6,F7,simprocAttr,rJ,i64,h0,h4,aH];refine kf.append aax rfl aF aF (by intro y hy;obtain⟨z,_,rfl⟩:=List.mem_map.1 hy;rfl) aq aq (by simp only[ak4,alQ,alg,alf];omega) (λv' s' Kh=>?_);simp only[JT,F6,F7,simprocAttr,rJ,i64,h0,h4];refine⟨n.toNat-(i+1),_,_,ae,bO.refl,i+1,rfl,aE,?_,?_,?_⟩ <;> (try simp only[zU,Ft,qa,qe,Fp,reduceIte])
  ·exact h0
  ·rw[bK _ ae];rfl
  ·rw[List.replicate_succ',amp];exact Kh
 ·have eg:i=n.toNat:=by omega
  subst eg;have aH:¬(n.toNat:Int)<n:=ae;simp only[JT,F6,F7,simprocAttr,rJ,i64,h0,h4,aH];rw[kf.frz aq];rfl
theorem rb {α:Type} (l:List α) (f:α->D) (n:Nat):((l.map λx=>[V.d (f x)]).all λe=>e.all (ak n))=true:=by rw[als];intro e he;obtain⟨x,_,rfl⟩:=List.mem_map.1 he;rfl
def dW (g0:Nat) (t:List Int) (ai F:Int) (st:bE):VL.Obj :=
 ⟨g0,true,7,[[.d (ar t),i64 ai,i64 F,i64 st.steps,bV st.empty,.so 1 st.ends.length 0 st.ends.length,.so 2 st.ends.length 0 st.aj.length]]⟩
def cu (g0:Nat) (t:List Int) (ai F:Int) (st:bE):List VL.Obj :=
 [dW g0 t ai F st,⟨st.ends.length,true,1,st.ends.map λx=>[V.d (iD x)]⟩,⟨st.ends.length,true,1,st.aj.map λc=>[V.d (bS c)]⟩]
theorem XP (g0:Nat) (t:List Int) (ai F:Int) (st:bE) (h0:0<=st.steps) (h1:st.steps<=10000000000000) :
  av prog 128 [.rf 0 g0 0 0] (cu g0 t ai F st) λv s=>v=bV (!(st.step F).empty)/\s=cu g0 t ai F (st.step F):=by
 have w1:IntKind.i64.wrap (st.steps+1)=st.steps+1:=bK _ ae;unfold cu dW bE.step;by_cases c:F<st.steps+1
 ·refine br func128 ntmps128 results128 3 5 ?_;simp only[zI,simprocAttr,bV,w1];refine cP mix [] [] ?_;simp only[zI,simprocAttr,bV,w1,gt_iff_lt,c,Bool.or_true];simp only[rb,amh]
 ·refine br func128 ntmps128 results128 3 5 ?_;simp only[zI,simprocAttr,bV,w1];refine cP mix [] [] ?_;simp only[zI,simprocAttr,bV,w1,gt_iff_lt,c,ce c,amo];simp only[rb,amh]
def fV:Task->FuncId
 |.run _ _ _=>90
 |.rep _ _ _=>114
 |.node _ _ _=>116
def fk (g0:Nat):Task->List V
 |.run g i c=>[.rf 0 g0 0 0,.d g.d,i64 i,.d (bS c)]
 |.rep g i c=>[.rf 0 g0 0 0,.d g.d,i64 i,.d (bS c)]
 |.node g i c=>[.rf 0 g0 0 0,.d g.d,i64 i,.d (bS c)]
def lp (t:List Int) (F:Int) (n:Nat):Prop:=∀g0 ai task st b st',eK t F n ai task st=some (b,st')->av prog (fV task) (fk g0 task) (cu g0 t ai F st) λv s=>v=bV b/\s=cu g0 t ai F st'
theorem xS {α:Type} (ρ:List Nat) (g:Nat) (lv:Bool) (z:Nat) (l:List α) (f:α->D):ba ρ ⟨g,lv,z,l.map λx=>[V.d (f x)]⟩=⟨g,lv,z,l.map λx=>[V.d (f x)]⟩:=by simp only[ba,alH];congr 1
theorem Pf (g0:Nat) (t:List Int) (ai F:Int) (st:bE):ba [0,1,2] (dW g0 t ai F st)=dW g0 t ai F st:=rfl
theorem aX (l1:List Int) (l2:List aC):(((l1.map λx=>[V.d (D.sc (Value.int IntKind.i64 x))]).all λe=>e.all (ak 3))&&((l2.map λc=>[V.d (bS c)]).all λe=>e.all (ak 3)))=true:=by rw[alo];exact⟨rb l1 iD 3,rb l2 bS 3⟩
theorem Goal.bP (kind:Int) (re:Re) (k fi:Int) (next:Goal):(Goal.mk kind re k fi next).d=.el [iD kind,iD re.op,.sl (re.set.map aU),.sl (re.kids.map Re.cells),iD re.mn,iD re.mx,iD re.mode,iD re.n,bD re.neg,iD k,iD fi,next.d]:=by rw[Goal.d,Re.ah];rfl
theorem Ai {f:FuncId}{cargs:List V}{b:V}{ext:List VL.Obj}{K:V->List VL.Obj->Prop}
  (h:av prog f cargs (cu g0 t ai F st) λv s=>v=b/\s=cu g0 t ai F st') (ha:cargs.map (aI [0,1,2])=cargs) (xj:ak.go 3 cargs=true) (hb:aI [0,1,2] b=b) (hk:K b (cu g0 t ai F st'++ext)) :
  av prog f cargs (cu g0 t ai F st++ext) K:=by
 refine dD [0,1,2] h aF rfl ?_ ha.symm xj ?_ hb ?_
 ·unfold cu;simp only[ak8,ak9,ak5,ak6,List.getElem?_cons_zero,List.getElem?_cons_succ,Pf,xS]
 ·unfold cu dW;simp only[alR,alW,aY,rb];simp [ak,ak.go,i64,bV]
 ·have:aT (cu g0 t ai F st++ext) [0,1,2] ((cu g0 t ai F st').map (ba [0,1,2]))=cu g0 t ai F st'++ext:=by unfold cu;simp only[ak8,ak9,ak5,ak6,Pf,xS,aT,alA,alD]
  rw[this];exact hk
theorem Kb (g0:Nat) (task:Task):(fk g0 task).map (aI [0,1,2])=fk g0 task:=by cases task <;> rfl
theorem G4 (g0:Nat) (task:Task):ak.go 3 (fk g0 task)=true:=by cases task <;> rfl
theorem gz{task:Task} (h:av prog (fV task) (fk g0 task) (cu g0 t ai F st) λv s=>v=bV b/\s=cu g0 t ai F st') (ext:List VL.Obj) :
  av prog (fV task) (fk g0 task) (cu g0 t ai F st++ext) λv s=>v=bV b/\s=cu g0 t ai F st'++ext:=Ai h (Kb g0 _) (G4 g0 _) rfl ⟨rfl,rfl⟩
def mc:Option (Int×aC)->V
 |none=>.tu [i64 0,.d (.sl []),bV false]
 |some (e,d)=>.tu [i64 e,.d (bS d),bV true]
theorem K8 (ih:lp t F n) (hr:cY (eK t F n) g i c st=some (r,st')) :
  av prog 127 [.rf 0 g0 0 0,.d g.d,i64 i,.d (bS c)] (cu g0 t ai F st) λv s=>v=mc r/\s=cu g0 t ai F st':=by
 unfold cY at hr;cases hx:eK t F n 1 (.run g i c) ⟨st.steps,false,[],[]⟩ with
 |none=>rw[hx]at hr;cases hr
 |some bx =>
  obtain⟨b,x⟩:=bx;rw[hx]at hr;simp only at hr;have dU:=ih 1 _ _ _ _ _ hx;unfold cu dW fV fk at dU;unfold cu dW;simp only[i64,bV]at dU;refine br func127 ntmps127 results127 3 3855 ?_;simp only[zI,simprocAttr,bV];refine aW cr.bu ?_;refine cP mix [] [(13,[3],[3])] ?_;simp only[zI,simprocAttr,bV,hole];refine iX (pre:=[.d (ar t),.d (.sc (.int .i64 1)),.d (.sc (.int .i64 F)),.d (.sc (.int .i64 st.steps)),.d (.sc (.bool false))]) (post:=[.fu []]) 3 1 rfl rfl rfl ?_;simp only[alD,alA,ak5,ak6,alg,alf,Fq];refine iX (pre:=[.d (ar t),.d (.sc (.int .i64 1)),.d (.sc (.int .i64 F)),.d (.sc (.int .i64 st.steps)),.d (.sc (.bool false)),.so 4 0 0 0]) (post:=[]) 3 1 rfl rfl rfl ?_;simp only[alD,alA,ak5,ak6,alg,alf,Fq];refine dD [3,4,5] dU aF rfl rfl rfl rfl ?_ rfl ?_
  ·rfl
  simp only[ak8,ak9,xS,aT,alA,alD,ba,aI,aI.go,ama,alY];obtain⟨xs,xe,iQ,rX⟩:=x;simp only at hr;cases xe with
  |true =>
   simp only[if_true,alb,alG]at hr;obtain⟨rfl,rfl⟩:=hr;simp only[zI,simprocAttr,bV];exact⟨by simp only[rb,amh],rfl⟩
  |false =>
   simp only[alk,if_false]at hr;cases iQ with
   |nil =>
    simp only[alb,alG]at hr;obtain⟨rfl,rfl⟩:=hr;simp only[zI,simprocAttr,bV,alf,alv];exact⟨by simp only[rb,amh],rfl⟩
   |cons e es =>
    cases rX with
    |nil=>cases hr
    |cons d ds =>
     simp only[alb,alG]at hr;obtain⟨rfl,rfl⟩:=hr;have eX:¬((es.length:Int)+1=0):=ae;simp only[zI,simprocAttr,bV,alg,amf,Int.natCast_one,eX];refine cP mix [] [] ?_;simp only[aI.go,aI];simp only[zI,simprocAttr,bV,iD,alg];refine⟨ae,ae,?_,rfl⟩;rw[alo];exact⟨rb st.ends iD 3,rb st.aj bS 3⟩
theorem RM (r:Option (Int×aC)):aI [0,1,2] (mc r)=mc r:=by cases r <;> rfl
theorem Br (ih:lp t F n) (hr:cY (eK t F n) g i c st=some (r,st')) (ext:List VL.Obj) :
  av prog 127 [.rf 0 g0 0 0,.d g.d,i64 i,.d (bS c)] (cu g0 t ai F st++ext) λv s=>v=mc r/\s=cu g0 t ai F st'++ext :=
 Ai (K8 ih hr) rfl rfl (RM r) ⟨rfl,rfl⟩
theorem K4 (g0:Nat) (t:List Int) (ai F:Int) (st:bE) (h0:0<=st.steps) (h1:st.steps<=10000000000000) (ext:List VL.Obj) :
  av prog 128 [.rf 0 g0 0 0] (cu g0 t ai F st++ext) λv s=>v=bV (!(st.step F).empty)/\s=cu g0 t ai F (st.step F)++ext :=
 Ai (XP g0 t ai F st h0 h1) rfl rfl rfl ⟨rfl,rfl⟩
theorem WA{st:bE} (he:st.ends.length<2000000000000) (hs:st.aj.length=st.ends.length) :
  av prog 90 [.rf 0 g0 0 0,.d Goal.nil.d,i64 i,.d (bS c)] (cu g0 t ai F st) λv s=>v=bV (decide (0<=ai)&&decide (ai<=(st.ends.length:Int)+1))/\s=cu g0 t ai F { st with ends:=st.ends++[i],aj:=st.aj++[c] }:=by
 obtain⟨steps,empty,ends,aj⟩:=st;simp only at he hs;have hd:Goal.nil.d=.sc (.pointer none):=rfl;have hca:(bS c)=.sl (c.map aU):=rfl;have t1:(ends.map λx=>[V.d (iD x)]).take ends.length=ends.map λx=>[V.d (iD x)]:=aln aq;have t2:(aj.map λc=>[V.d (bS c)]).take ends.length=aj.map λc=>[V.d (bS c)]:=aln (by simp [hs]);unfold cu dW;simp only[hs];refine br func90 ntmps90 results90 3 2251799813685519 ?_;simp only[zI,simprocAttr,bV,hd,iD];refine⟨⟨_,rfl⟩,aq,⟨ae,ae⟩,aq,⟨ae,ae⟩,?_⟩;simp only[iD]at t1;rw[t1,t2];have l1:(ends++[i]).length=ends.length+1:=aq;have l2:(aj++[c]).length=ends.length+1:=by simp [hs]
 have m1:(ends++[i]).map (λx=>[V.d (D.sc (Value.int .i64 x))])=ends.map (λx=>[V.d (D.sc (Value.int .i64 x))])++[[V.d (D.sc (Value.int .i64 i))]]:=aq;have m2:(aj++[c]).map (λc=>[V.d (bS c)])=aj.map (λc=>[V.d (bS c)])++[[V.d (bS c)]]:=aq;rw[l1,l2,m1,m2];have bR:(((ends.map (λx=>[V.d (D.sc (Value.int .i64 x))])++[[V.d (D.sc (Value.int .i64 i))]]).all λe=>e.all (ak 3))&&((aj.map (λc=>[V.d (bS c)])++[[V.d (bS c)]]).all λe=>e.all (ak 3)))=true:=by rw[<- m1,<- m2];exact aX _ _
 generalize ends.map (λx=>[V.d (D.sc (Value.int .i64 x))])++[[V.d (D.sc (Value.int .i64 i))]]=E1 at *;generalize aj.map (λc=>[V.d (bS c)])++[[V.d (bS c)]]=C1 at *;refine cP mix [] [] ?_;by_cases q:0<=ai
 ·simp only[zI,simprocAttr,bV,iD,ge_iff_le,q,decide_true,al6,amf,Int.natCast_one];exact bR
 ·simp only[zI,simprocAttr,bV,iD,ge_iff_le,q,decide_false,Bool.false_and];exact bR
theorem run_mk (ih:lp t F n){next:Goal}
  (hr:cw t F (eK t F n) ai (.run (.mk kind re k fi next) i c) st=some (b,st')) :
  av prog 90 [.rf 0 g0 0 0,.d (Goal.mk kind re k fi next).d,i64 i,.d (bS c)] (cu g0 t ai F st) λv s=>v=bV b/\s=cu g0 t ai F st':=by
 simp only[cw]at hr;by_cases hi:i<0\/(t.length:Int)<i
 ·rw[be hi]at hr;cases hr
 rw[ap hi]at hr;by_cases k1:kind=1
 ·rw[be k1]at hr;have hc:=ih g0 _ _ _ _ _ hr;unfold fV fk cu dW at hc;simp only[Goal.bP,i64,iD,bD,bV]at hc;simp only[k1]at hc;unfold cu dW;refine br func90 ntmps90 results90 3 2251799813685519 ?_;simp only[zI,simprocAttr,bV,Goal.bP,iD,bD,k1];exact Zca
 rw[ap k1]at hr;by_cases k2:kind=2
 ·rw[be k2]at hr;by_cases c1:re.mn<=k/\i=fi
  ·rw[be c1]at hr;simp only[alb,alG]at hr;obtain⟨rfl,rfl⟩:=hr;unfold cu dW;refine br func90 ntmps90 results90 3 2251799813685519 ?_;simp only[zI,simprocAttr,bV,Goal.bP,iD,bD,k2];refine⟨⟨_,rfl⟩,?_⟩;refine cP mix [] [] ?_;simp only[zI,simprocAttr,bV,iD,ge_iff_le,c1.1,c1.2];exact aX _ _
  rw[ap c1]at hr;by_cases c2:k<0\/10000000000000<k
  ·rw[be c2]at hr;cases hr
  rw[ap c2]at hr;have Mm:=ih g0 _ _ _ _ _ hr;have hc:∀X,av prog _ _ (cu g0 t ai F st++[X]) (λv s=>v=bV b/\s=cu g0 t ai F st'++[X]):=λX=>Ai Mm (Kb g0 _) (G4 g0 _) rfl ⟨rfl,rfl⟩;unfold fV fk cu dW at hc;simp only[Goal.bP,i64,iD,bD,bV]at hc;simp only[ak5,ak6]at hc;have w1:IntKind.i64.wrap (k+1)=k+1:=bK _ ae;unfold cu dW;refine br func90 ntmps90 results90 3 2251799813685519 ?_;simp only[zI,simprocAttr,bV,Goal.bP,iD,bD,k2];refine⟨⟨_,rfl⟩,?_⟩;refine cP mix [] [] ?_;by_cases q1:re.mn<=k
  case' pos =>
   have q2:¬i=fi:=λh=>c1 ⟨q1,h⟩;simp only[zI,simprocAttr,bV,iD,ge_iff_le,q1,q2]
  case' neg =>
   simp only[zI,simprocAttr,bV,iD,ge_iff_le,q1]
  all_goals
   refine aW cr.bu ?_;refine cP mix [18] [(15,[3],[3])] ?_;simp only[zQ,simprocAttr,hole,w1];refine cU (bC [3] ?_ (hc _)) ?_
   ·simp [bI,bU,bq.go,bq,cJ]
   ·simp only[zI,simprocAttr,bV,iD];exact aX _ _
 rw[ap k2]at hr;by_cases k3:kind=3
 ·rw[be k3]at hr;by_cases c1:1000000000<c.length
  ·rw[be c1]at hr;cases hr
  rw[ap c1]at hr;have hc:=ih g0 _ _ _ _ _ hr;unfold fV fk cu dW at hc;simp only[Goal.bP,i64,iD,bD,bV]at hc;have hw:=Xj c re.n fi i ae;simp only[i64]at hw;unfold cu dW;refine br func90 ntmps90 results90 3 2251799813685519 ?_;simp only[zI,simprocAttr,bV,Goal.bP,iD,bD,k3];refine⟨⟨_,rfl⟩,?_⟩;refine cP mix [18] [] ?_;simp only[zQ,simprocAttr];refine HD hw ?_;simp only[zQ,simprocAttr];refine cU hc ?_;simp only[zI,simprocAttr,bV,iD];exact aX _ _
 rw[ap k3]at hr;by_cases k4:kind=4
 ·rw[be k4]at hr;by_cases c1:i=fi
  ·rw[be c1]at hr;have hc:=ih g0 _ _ _ _ _ hr;unfold fV fk cu dW at hc;simp only[Goal.bP,i64,iD,bD,bV]at hc;unfold cu dW;refine br func90 ntmps90 results90 3 2251799813685519 ?_;simp only[zI,simprocAttr,bV,Goal.bP,iD,bD,k4];refine⟨⟨_,rfl⟩,?_⟩;simp only[zQ,simprocAttr,c1];simp only[c1]at hc
   (refine an hc (λv s' hv=>?_);obtain⟨rfl,rfl⟩:=hv)
   simp only[zI,simprocAttr,bV,iD];exact aX _ _
  ·rw[ap c1]at hr;simp only[alb,alG]at hr;obtain⟨rfl,rfl⟩:=hr;unfold cu dW;refine br func90 ntmps90 results90 3 2251799813685519 ?_;simp only[zI,simprocAttr,bV,Goal.bP,iD,bD,k4,c1];exact⟨⟨_,rfl⟩,aX _ _⟩
 rw[ap k4]at hr;have hc:=ih g0 _ _ _ _ _ hr;unfold fV fk cu dW at hc;simp only[Goal.bP,i64,iD,bD,bV]at hc;unfold cu dW;refine br func90 ntmps90 results90 3 2251799813685519 ?_;simp only[zI,simprocAttr,bV,Goal.bP,iD,bD,k1,k2,k3,k4];exact Zca
theorem TO (ih:lp t F n){next:Goal} (hm:re.mode=2)
  (hr:sO F (eK t F n) ai re k next i c st=some (b,st')) :
  av prog 114 [.rf 0 g0 0 0,.d (Goal.mk kind re k fi next).d,i64 i,.d (bS c)] (cu g0 t ai F st) λv s=>v=bV b/\s=cu g0 t ai F st':=by
 unfold sO at hr;rw[be hm]at hr;cases hx:cY (eK t F n) (.mk 1 (re.dJ 0) 0 0 .nil) i c st with
 |none=>rw[hx]at hr;cases hr
 |some x =>
  obtain⟨r,s1⟩:=x;rw[hx]at hr;have hf:=λext=>Br (g0:=g0) (ai:=ai) ih hx ext;have GA:Goal.nil.d=.sc (.pointer none):=rfl;have e1:(re.dJ 0).op=re.op/\(re.dJ 0).set=re.set/\(re.dJ 0).kids=re.kids/\(re.dJ 0).mn=re.mn/\(re.dJ 0).mx=re.mx/\(re.dJ 0).mode=0/\(re.dJ 0).n=re.n/\(re.dJ 0).neg=re.neg:=⟨rfl,rfl,rfl,rfl,rfl,rfl,rfl,rfl⟩
  obtain⟨a1,a2,a3,a4,a5,a6,a7,a8⟩:=e1;unfold cu dW at hf;simp only[Goal.bP,GA,a1,a2,a3,a4,a5,a6,a7,a8,i64,iD,bD,bV,ak5,ak6]at hf;cases r with
  |none =>
   simp only[alb,alG]at hr;obtain⟨rfl,rfl⟩:=hr;unfold cu dW;refine br func114 ntmps114 results114 3 32527 ?_;simp only[zI,simprocAttr,bV,Goal.bP,iD,bD,hm];refine bC [4] (by simp [bI,bU,bq.go,bq,cJ]) (an (hf _) (λv s' hv=>?_));obtain⟨rfl,rfl⟩:=hv;simp only[zQ,simprocAttr,mc];exact aX _ _
  |some p =>
   obtain⟨e,d⟩:=p;simp only at hr;have hc:=λext=>gz (ih g0 _ _ _ _ _ hr) ext;unfold fV fk cu dW at hc;simp only[Goal.bP,i64,iD,bD,bV,ak5,ak6]at hc;unfold cu dW;refine br func114 ntmps114 results114 3 32527 ?_;simp only[zI,simprocAttr,bV,Goal.bP,iD,bD,hm];refine bC [4] (by simp [bI,bU,bq.go,bq,cJ]) (an (hf _) (λv s' hv=>?_));obtain⟨rfl,rfl⟩:=hv;simp only[zQ,simprocAttr,mc];refine an (hc _) (λv s' hv=>?_);obtain⟨rfl,rfl⟩:=hv;simp only[zQ,simprocAttr];exact aX _ _
theorem SE (ih:lp t F n){next:Goal} (hm:¬re.mode=2)
  (hr:sO F (eK t F n) ai re k next i c st=some (b,st')) :
  av prog 114 [.rf 0 g0 0 0,.d (Goal.mk kind re k fi next).d,i64 i,.d (bS c)] (cu g0 t ai F st) λv s=>v=bV b/\s=cu g0 t ai F st':=by
 unfold sO at hr;rw[ap hm]at hr;by_cases c1:st.steps<0\/10000000000000<st.steps
 ·rw[be c1]at hr;cases hr
 rw[ap c1]at hr;have bL:=λext=>K4 g0 t ai F st ae ae ext;generalize st.step F=s1 at *;unfold cu dW at bL;simp only[i64,bV,iD,ak5,ak6]at bL;simp only at hr;by_cases he:s1.empty=true
 ·rw[be he]at hr;simp only[alb,alG]at hr;obtain⟨rfl,rfl⟩:=hr;unfold cu dW;refine br func114 ntmps114 results114 3 32527 ?_;simp only[zI,simprocAttr,bV,Goal.bP,iD,bD,hm];refine an (bL _) (λv s' hv=>?_);obtain⟨rfl,rfl⟩:=hv;simp only[zQ,simprocAttr,he,ali,alh];exact aX _ _
 have he:s1.empty=false:=by simpa using he
 rw[he]at hr;simp only[alk,if_false]at hr;cases hk:re.kids with
 |nil=>rw[hk]at hr;cases hr
 |cons aJ l =>
  rw[hk]at hr;have jX:re.kids[0]?=some aJ:=by rw[hk];rfl
  have mY:(0:Int)<(re.kids.length:Int):=by rw[hk,alg];omega
  clear hk;simp only at hr;by_cases c2:k<re.mn
  ·rw[be c2]at hr;have hc:=λext=>gz (ih g0 _ _ _ _ _ hr) ext;unfold fV fk cu dW at hc;simp only[Goal.bP,i64,iD,bD,bV,ak5,ak6]at hc;simp only[he]at hc;by_cases hM:re.mx=-1\/k<re.mx
   ·
    by_cases m1:re.mx=-1
    ·have d1:decide (re.mx=-1)=true:=bi m1;unfold cu dW;refine br func114 ntmps114 results114 3 32527 ?_;simp only[zI,simprocAttr,bV,Goal.bP,iD,bD,hm];refine an (bL _) (λv s' hv=>?_);obtain⟨rfl,rfl⟩:=hv;simp only[zQ,simprocAttr,he,ali,alh];refine cP mix [] [] ?_;simp only[zQ,simprocAttr,d1];exact ZdT
    ·have d1:decide (re.mx=-1)=false:=ce m1;have m2:k<re.mx:=hM.resolve_left m1;unfold cu dW;refine br func114 ntmps114 results114 3 32527 ?_;simp only[zI,simprocAttr,bV,Goal.bP,iD,bD,hm];refine an (bL _) (λv s' hv=>?_);obtain⟨rfl,rfl⟩:=hv;simp only[zQ,simprocAttr,he,ali,alh];refine cP mix [] [] ?_;simp only[zQ,simprocAttr,d1,m2];exact ZdT
   ·
    have d1:decide (re.mx=-1)=false:=ce (λh=>hM (.inl h));have m2:¬k<re.mx:=λh=>hM (.inr h);unfold cu dW;refine br func114 ntmps114 results114 3 32527 ?_;simp only[zI,simprocAttr,bV,Goal.bP,iD,bD,hm];refine an (bL _) (λv s' hv=>?_);obtain⟨rfl,rfl⟩:=hv;simp only[zQ,simprocAttr,he,ali,alh];refine cP mix [] [] ?_;simp only[zQ,simprocAttr,d1,m2];refine aW (cr.trans cr.bu cr.bu) ?_;refine cP mix [] [(15,[4],[4]),(17,[5],[5])] ?_;simp only[zQ,simprocAttr,hole,jX,mY,au aJ,Re.ah aJ];refine cP mix [] [] ?_;simp only[zQ,simprocAttr,c2,c2];refine bC [4,5] (by simp [bI,bU,bq.go,bq,cJ]) (an (hc _) (λv s' hv=>?_));obtain⟨rfl,rfl⟩:=hv;simp only[zQ,simprocAttr];exact aX _ _
  rw[ap c2]at hr;by_cases m3:re.mode=1
  ·have d3:decide (re.mode=1)=true:=bi m3;rw[be m3]at hr;cases hx:eK t F n ai (.run next i c) s1 with
   |none=>rw[hx]at hr;cases hr
   |some x =>
    obtain⟨b1,s2⟩:=x;rw[hx]at hr;have h1:=λext=>gz (ih g0 _ _ _ _ _ hx) ext;unfold fV fk cu dW at h1;simp only[Goal.bP,i64,iD,bD,bV,ak5,ak6]at h1;simp only[he]at h1;by_cases hM:re.mx=-1\/k<re.mx
    ·simp only[be hM]at hr;cases b1 with
     |true =>
      simp only[xc,alb,alG]at hr;obtain⟨rfl,rfl⟩:=hr;by_cases m1:re.mx=-1
      ·have d1:decide (re.mx=-1)=true:=bi m1;unfold cu dW;refine br func114 ntmps114 results114 3 32527 ?_;simp only[zI,simprocAttr,bV,Goal.bP,iD,bD,hm];refine an (bL _) (λv s' hv=>?_);obtain⟨rfl,rfl⟩:=hv;simp only[zQ,simprocAttr,he,ali,alh];refine cP mix [] [] ?_;simp only[zQ,simprocAttr,d1];exact ZdW
      ·have d1:decide (re.mx=-1)=false:=ce m1;have m2:k<re.mx:=hM.resolve_left m1;unfold cu dW;refine br func114 ntmps114 results114 3 32527 ?_;simp only[zI,simprocAttr,bV,Goal.bP,iD,bD,hm];refine an (bL _) (λv s' hv=>?_);obtain⟨rfl,rfl⟩:=hv;simp only[zQ,simprocAttr,he,ali,alh];refine cP mix [] [] ?_;simp only[zQ,simprocAttr,d1,m2];exact ZdW
     |false =>
      simp only[xc]at hr;have hc:=λext=>gz (ih g0 _ _ _ _ _ hr) ext;unfold fV fk cu dW at hc;simp only[Goal.bP,i64,iD,bD,bV,ak5,ak6]at hc;by_cases m1:re.mx=-1
      ·have d1:decide (re.mx=-1)=true:=bi m1;unfold cu dW;refine br func114 ntmps114 results114 3 32527 ?_;simp only[zI,simprocAttr,bV,Goal.bP,iD,bD,hm];refine an (bL _) (λv s' hv=>?_);obtain⟨rfl,rfl⟩:=hv;simp only[zQ,simprocAttr,he,ali,alh];refine cP mix [] [] ?_;simp only[zQ,simprocAttr,d1];exact ZdR
      ·have d1:decide (re.mx=-1)=false:=ce m1;have m2:k<re.mx:=hM.resolve_left m1;unfold cu dW;refine br func114 ntmps114 results114 3 32527 ?_;simp only[zI,simprocAttr,bV,Goal.bP,iD,bD,hm];refine an (bL _) (λv s' hv=>?_);obtain⟨rfl,rfl⟩:=hv;simp only[zQ,simprocAttr,he,ali,alh];refine cP mix [] [] ?_;simp only[zQ,simprocAttr,d1,m2];exact ZdR
    ·simp only[ap hM]at hr;cases b1 with
     |true =>
      exact ZaC
     |false =>
      exact ZaC
  ·have d3:decide (re.mode=1)=false:=ce m3;rw[ap m3]at hr;by_cases hM:re.mx=-1\/k<re.mx
   ·simp only[be hM]at hr;cases hx:eK t F n ai (.run (.mk 0 aJ 0 0 (.mk 2 re k i next)) i c) s1 with
    |none=>rw[hx]at hr;cases hr
    |some x =>
     obtain⟨b1,s2⟩:=x;rw[hx]at hr;have h1:=λext=>gz (ih g0 _ _ _ _ _ hx) ext;unfold fV fk cu dW at h1;simp only[Goal.bP,i64,iD,bD,bV,ak5,ak6]at h1;simp only[he]at h1;cases b1 with
     |true =>
      simp only[xc,alb,alG]at hr;obtain⟨rfl,rfl⟩:=hr;by_cases m1:re.mx=-1
      ·have d1:decide (re.mx=-1)=true:=bi m1;unfold cu dW;refine br func114 ntmps114 results114 3 32527 ?_;simp only[zI,simprocAttr,bV,Goal.bP,iD,bD,hm];refine an (bL _) (λv s' hv=>?_);obtain⟨rfl,rfl⟩:=hv;simp only[zQ,simprocAttr,he,ali,alh];refine cP mix [] [] ?_;simp only[zQ,simprocAttr,d1];exact ZdU
      ·have d1:decide (re.mx=-1)=false:=ce m1;have m2:k<re.mx:=hM.resolve_left m1;unfold cu dW;refine br func114 ntmps114 results114 3 32527 ?_;simp only[zI,simprocAttr,bV,Goal.bP,iD,bD,hm];refine an (bL _) (λv s' hv=>?_);obtain⟨rfl,rfl⟩:=hv;simp only[zQ,simprocAttr,he,ali,alh];refine cP mix [] [] ?_;simp only[zQ,simprocAttr,d1,m2];exact ZdU
     |false =>
      simp only[xc]at hr;have hc:=λext=>gz (ih g0 _ _ _ _ _ hr) ext;unfold fV fk cu dW at hc;simp only[Goal.bP,i64,iD,bD,bV,ak5,ak6]at hc;by_cases m1:re.mx=-1
      ·have d1:decide (re.mx=-1)=true:=bi m1;unfold cu dW;refine br func114 ntmps114 results114 3 32527 ?_;simp only[zI,simprocAttr,bV,Goal.bP,iD,bD,hm];refine an (bL _) (λv s' hv=>?_);obtain⟨rfl,rfl⟩:=hv;simp only[zQ,simprocAttr,he,ali,alh];refine cP mix [] [] ?_;simp only[zQ,simprocAttr,d1];exact ZdS
      ·have d1:decide (re.mx=-1)=false:=ce m1;have m2:k<re.mx:=hM.resolve_left m1;unfold cu dW;refine br func114 ntmps114 results114 3 32527 ?_;simp only[zI,simprocAttr,bV,Goal.bP,iD,bD,hm];refine an (bL _) (λv s' hv=>?_);obtain⟨rfl,rfl⟩:=hv;simp only[zQ,simprocAttr,he,ali,alh];refine cP mix [] [] ?_;simp only[zQ,simprocAttr,d1,m2];exact ZdS
   ·simp only[ap hM,xc]at hr;have hc:=λext=>gz (ih g0 _ _ _ _ _ hr) ext;unfold fV fk cu dW at hc;simp only[Goal.bP,i64,iD,bD,bV,ak5,ak6]at hc;simp only[he]at hc;have d1:decide (re.mx=-1)=false:=ce (λh=>hM (.inl h));have m2:¬k<re.mx:=λh=>hM (.inr h);unfold cu dW;refine br func114 ntmps114 results114 3 32527 ?_;simp only[zI,simprocAttr,bV,Goal.bP,iD,bD,hm];refine an (bL _) (λv s' hv=>?_);obtain⟨rfl,rfl⟩:=hv;simp only[zQ,simprocAttr,he,ali,alh];refine cP mix [] [] ?_;simp only[zQ,simprocAttr,d1,m2];refine aW (cr.trans cr.bu cr.bu) ?_;refine cP mix [] [(15,[4],[4]),(17,[5],[5])] ?_;simp only[zQ,simprocAttr,hole,jX,mY,au aJ,Re.ah aJ];refine cP mix [] [] ?_;simp only[zQ,simprocAttr,c2,d3];refine an (hc _) (λv s' hv=>?_);obtain⟨rfl,rfl⟩:=hv;simp only[zQ,simprocAttr];exact aX _ _
end Go.Proofs.YtjjfioalgbecmaaGreat
