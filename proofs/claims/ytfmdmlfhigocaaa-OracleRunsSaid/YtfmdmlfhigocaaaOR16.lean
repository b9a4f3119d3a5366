/- A part of the proof (F4 F5 F13 F15 F16 G5). -/
import Derived.Test.YtfmdmlfhigocaaaOR13
import Derived.Test.YtfmdmlfhigocaaaOR15
set_option linter.unusedSimpArgs false
set_option linter.unusedVariables false
open Nat renaming reduceShiftRight → cy, reduceMod → cJ, reduceEqDiff → dV, reduceBEq → gV
set_option maxRecDepth 100000
set_option maxHeartbeats 80000000
namespace Go.Proofs.Ytfmdmlfhigocaaa
open Go.VL Go.Proofs.Try
structure Mk where
 l:List Int
 pos:Int
 dC:Int
 left:Int
 ai:Int
def lN (m:Mk):VL.Obj:=⟨0,true,5,[[.d (an m.l),i64 m.pos,i64 m.dC,i64 m.left,i64 m.ai]]⟩
def lM:V:=.rf 0 0 0 0
structure Mk.ok (m:Mk):Prop where
 l:∀x∈m.l,fx x
 pos:0<=m.pos/\m.pos<=1000000000
 left:-1000000000<=m.left/\m.left<=1000000000
 ai:0<=m.ai/\m.ai<=1000000000
def Mk.next (m:Mk) (n:Int):Int×Mk:=(pick m.l m.pos n,{ m with pos:=m.pos+1 })
theorem gZ (m:Mk) (hl:∀x∈m.l,fx x) (hp:0<=m.pos/\m.pos<=1000000000) (n:Int) (hn:1<=n):az prog 87 [lM,i64 n] [lN m] λv s=>v=i64 (m.next n).1/\s=[lN (m.next n).2]:=by
 have w1:IntKind.i64.wrap (m.pos+1)=m.pos+1:=bF _ ae;have w2:IntKind.i64.wrap (m.pos+1-1)=m.pos:=by rw[bF _ ae];omega
 refine bk func87 ntmps87 results87 1 19 ?_;simp only[zJ,simprocAttr,lM,lN,w1,w2];refine aA mix [] [] aN ?_;simp only[zJ,simprocAttr,lM,lN,w1,w2];refine bR (CT m.l hl m.pos n hn) rfl rfl ?_;simp only[zJ,simprocAttr,lM,lN,w1,w2,Mk.next]
def rD:List (List (Int×Int)):=[[(97,97)],[(98,98)],[(97,98)],[(99,99)],[(97,99)],[(0,96),(98,255)],[(10,10),(97,97)],[]]
def Re.TW (set:List (Int×Int)):Re:=.mk 1 set [] 0 0 0 0 false
def Mk.set (m:Mk):Re×Mk :=
 let (k,m1):=m.next 15
 (Re.TW ((rD[(k / 2).toNat]?).getD []),m1)
theorem cB (l:List Int) (i m:Int) (hm:1<=m):0<=pick l i m/\pick l i m<m:=by
 unfold pick cZ;split
 ·omega
 ·split
  ·rename_i h;have h1:0<=-(l[i.toNat]?.getD 0+1):=ae;exact⟨Int.tmod_nonneg _ h1,Int.tmod_lt_of_pos _ ae⟩
  ·rename_i h;exact⟨Int.tmod_nonneg _ ae,Int.tmod_lt_of_pos _ ae⟩
theorem yz (m:Mk) (hl:∀x∈m.l,fx x) (hp:0<=m.pos/\m.pos<=1000000000):az prog 88 [lM] [lN m] λv s=>v=kj m.set.1/\s=[lN m.set.2]:=by
 have hk:=cB m.l m.pos 15 ae;have hd:(pick m.l m.pos 15).tdiv 2=pick m.l m.pos 15 / 2:=by rw[Int.tdiv_eq_ediv_of_nonneg hk.1]
 have w1:IntKind.i64.wrap (pick m.l m.pos 15 / 2)=pick m.l m.pos 15 / 2:=bF _ ae;refine bk func88 ntmps88 results88 1 13 ?_;simp only[zJ,simprocAttr,lM];refine bC (gZ m hl hp 15 ae) rfl rfl rfl rfl rfl rfl ?_;have hc:pick m.l m.pos 15 / 2=0\/pick m.l m.pos 15 / 2=1\/pick m.l m.pos 15 / 2=2\/pick m.l m.pos 15 / 2=3\/pick m.l m.pos 15 / 2=4\/pick m.l m.pos 15 / 2=5\/pick m.l m.pos 15 / 2=6\/pick m.l m.pos 15 / 2=7:=ae;simp only[zJ,simprocAttr,lM,Mk.next,hd,w1];rcases hc with hc|hc|hc|hc|hc|hc|hc|hc <;> (simp only[zW,simprocAttr,hc,Mk.set,Mk.next,rD,Re.TW,Int.toNat_zero,kj,Re.cells];first|exact⟨ae,rfl,rfl⟩|exact⟨rfl,rfl⟩|rfl)
mutual
def Re.sB:Re->Bool
 |.mk op _ kids mn _ _ _ _=>if op=1 then false else if op=2 then Re.ri kids else if op=3\/op=10 then Re.py kids else if op=4 then decide (mn<=0)||Re.qa kids else if op=5\/op=9 then Re.qa kids else true
def Re.ri:List Re->Bool
 |[]=>true
 |k::l=>k.sB&&Re.ri l
def Re.py:List Re->Bool
 |[]=>false
 |k::l=>k.sB||Re.py l
def Re.qa:List Re->Bool
 |[]=>false
 |k::_=>k.sB
end
theorem Re.jv (re:Re):re.sB=if re.op=1 then false else if re.op=2 then Re.ri re.kids else if re.op=3\/re.op=10 then Re.py re.kids else if re.op=4 then decide (re.mn<=0)||Re.qa re.kids else if re.op=5\/re.op=9 then Re.qa re.kids else true:=by
 cases re;simp only[Re.sB,Re.op,Re.kids,Re.mn];rfl
theorem Re.sG:∀l:List Re,Re.ri l=l.all Re.sB
 |[]=>rfl
 |k::l=>by simp [Re.ri,Re.sG l]
theorem Re.sw:∀l:List Re,Re.py l=l.any Re.sB
 |[]=>rfl
 |k::l=>by simp [Re.py,Re.sw l]
theorem cC {α:Type}{l:List α}{i:Nat}{k x:α} (h:l[i]?=some k) (hx:x∈l.take (i+1)):x∈l.take i\/x=k:=by rw[bj h]at hx;simpa using hx
theorem iL (re:Re):re.size<=1000000000->aM prog 95 [kj re] (bV re.sB):=by
 induction re using Re.ind with
 |h re ih =>
 intro hs;have hlen:=Re.mP re.kids;have fY:=Re.size_eq re;refine bk func95 ntmps95 results95 0 576460752336978015 ?_;by_cases o1:re.op=1
 ·simp only[zW,simprocAttr,aq re,iD,bD,bV,o1,Re.jv re]
 by_cases o2:re.op=2
 ·simp only[zW,simprocAttr,aq re,iD,bD,bV,o2];refine ay (λn e s=>∃i:Nat,n=re.kids.length-i/\i<=re.kids.length/\e 1=.rf 0 0 0 0/\e 3=i64 i/\(∀x∈re.kids.take i,x.sB=true)/\s=[⟨0,true,8,[re.cells.map .d]⟩]) ⟨_,_,_,bJ.refl,0,rfl,aj,rfl,rfl,aj,by simp [Re.ah re,iD,bD,o2]⟩ ?_;rintro n e s ⟨i,rfl,hi,h1,h3,hn,rfl⟩;rcases ajr i re.kids.length with aB|iA
  ·obtain⟨k,hk⟩:∃k,re.kids[i]?=some k:=bZ aB;have hm:=ai4 hk;have JM:=Re.bN hm;simp only[zW,simprocAttr,Re.ah re,iD,bD,h1,h3,i64,aB,hk];refine bO (ih k hm ae) ?_;cases dZ:k.sB with
   |false =>
    simp only[zW,simprocAttr,bV,dZ];have:Re.ri re.kids=false:=by rw[Re.sG,akr];exact⟨k,hm,by simp [dZ]⟩
    simp [Re.jv re,o2,this]
   |true =>
    simp only[zW,simprocAttr,bV,dZ,h3,i64];refine⟨_,_,_,?_,bJ.refl,i+1,rfl,aB,?_⟩
    ·omega
    simp only[bX,dV,if_true,if_false];refine⟨h1,?_,λx hx=>?_,by simp [Re.ah re,iD,bD]⟩
    ·rw[bF _ ae];rfl
    ·rcases cC hk hx with h|rfl
     ·exact hn x h
     ·exact dZ
  ·have dY:i=re.kids.length:=by omega
   subst dY;simp only[zW,simprocAttr,Re.ah re,iD,bD,h1,h3,i64,aj7,bV];have:Re.ri re.kids=true:=by rw[Re.sG,ajo];simpa using hn
   simp [Re.jv re,o2,this]
 by_cases o3:re.op=3\/re.op=10
 ·have hr:re.sB=Re.py re.kids:=by simp [Re.jv re,o1,o2,o3]
  rcases o3 with o3|o3;all_goals
   simp only[zW,simprocAttr,aq re,iD,bD,bV,o1,o2,o3];refine ay (λn e s=>∃i:Nat,n=re.kids.length-i/\i<=re.kids.length/\e 1=.rf 0 0 0 0/\e 4=i64 i/\(∀x∈re.kids.take i,x.sB=false)/\s=[⟨0,true,8,[re.cells.map .d]⟩]) ⟨_,_,_,bJ.refl,0,rfl,aj,rfl,rfl,aj,by simp [Re.ah re,iD,bD,o3]⟩ ?_;rintro n e s ⟨i,rfl,hi,h1,h3,hn,rfl⟩;rcases ajr i re.kids.length with aB|iA
   ·obtain⟨k,hk⟩:∃k,re.kids[i]?=some k:=bZ aB;have hm:=ai4 hk;have JM:=Re.bN hm;simp only[zW,simprocAttr,Re.ah re,iD,bD,h1,h3,i64,aB,hk];refine bO (ih k hm ae) ?_;cases dZ:k.sB with
    |true =>
     simp only[zW,simprocAttr,bV,dZ];have:Re.py re.kids=true:=by rw[Re.sw,List.any_eq_true];exact⟨k,hm,by simp [dZ]⟩
     simp [hr,this]
    |false =>
     simp only[zW,simprocAttr,bV,dZ,h3,i64];refine⟨_,_,_,?_,bJ.refl,i+1,rfl,aB,?_⟩
     ·omega
     simp only[bX,dV,if_true,if_false];refine⟨h1,?_,λx hx=>?_,by simp [Re.ah re,iD,bD]⟩
     ·rw[bF _ ae];rfl
     ·rcases cC hk hx with h|rfl
      ·exact hn x h
      ·exact dZ
   ·have dY:i=re.kids.length:=by omega
    subst dY;simp only[zW,simprocAttr,Re.ah re,iD,bD,h1,h3,i64,aj7,bV];have:Re.py re.kids=false:=by rw[Re.sw,List.any_eq_false];simpa using hn
    simp [hr,this]
 have WX:¬re.op=3:=λh=>o3 (.inl h);have Bt:¬re.op=10:=λh=>o3 (.inr h);by_cases o4:re.op=4
 ·have hr:re.sB=(decide (re.mn<=0)||Re.qa re.kids):=by simp [Re.jv re,o4]
  by_cases hmn:re.mn<=0
  ·simp only[zW,simprocAttr,aq re,iD,bD,bV,o1,o2,WX,Bt,o4,hmn];simp [hr,hmn]
  cases hk:re.kids with
  |nil =>
   simp only[zW,simprocAttr,aq re,iD,bD,bV,o1,o2,WX,Bt,o4,hmn,hk,ai2];simp [hr,hmn,hk,Re.qa]
  |cons k l =>
   have hm:k∈re.kids:=by simp [hk]
   have JM:=Re.bN hm;have lQ:(0:Int)<((l.length+1:Nat):Int):=ae;simp only[zW,simprocAttr,aq re,iD,bD,bV,o1,o2,WX,Bt,o4,hmn,hk,aiZ,lQ];refine bO (ih k hm ae) ?_;cases dZ:k.sB with
   |true =>
    simp only[zW,simprocAttr,bV,dZ];simp [hr,hmn,hk,Re.qa,dZ]
   |false =>
    simp only[zW,simprocAttr,bV,dZ];simp [hr,hmn,hk,Re.qa,dZ]
 by_cases o5:re.op=5\/re.op=9
 ·have hr:re.sB=Re.qa re.kids:=by simp [Re.jv re,o1,o2,o3,o4,o5]
  rcases o5 with o5|o5;all_goals
   cases hk:re.kids with
   |nil =>
    simp only[zW,simprocAttr,aq re,iD,bD,bV,o1,o2,WX,Bt,o4,o5,hk,ai2];simp [hr,hk,Re.qa]
   |cons k l =>
    have hm:k∈re.kids:=by simp [hk]
    have JM:=Re.bN hm;have lQ:(0:Int)<((l.length+1:Nat):Int):=ae;simp only[zW,simprocAttr,aq re,iD,bD,bV,o1,o2,WX,Bt,o4,o5,hk,aiZ,lQ];refine bO (ih k hm ae) ?_;cases dZ:k.sB with
    |true =>
     simp only[zW,simprocAttr,bV,dZ];simp [hr,hk,Re.qa,dZ]
    |false =>
     simp only[zW,simprocAttr,bV,dZ];simp [hr,hk,Re.qa,dZ]
 have o5':¬re.op=5:=λh=>o5 (.inl h);have o9:¬re.op=9:=λh=>o5 (.inr h);simp only[zW,simprocAttr,aq re,iD,bD,bV,o1,o2,WX,Bt,o4,o5',o9];simp [Re.jv re,o1,o2,o3,o4,o5]
def yJ (a b:Int):Int:=if a<0\/b<0 then -1 else min (IntKind.i64.wrap (a+b)) 1000000
def D9 (a b:Int):Int:=if a<0\/b<0 then -1 else max a b
def lq (a b:Int):Int:=if a=0\/b=0 then 0 else if a<0\/b<0 then -1 else min (IntKind.i64.wrap (a*b)) 1000000
def aey (l:List (Int×Int)):Int×Int:=l.foldl (λa k=>(yJ a.1 k.1,yJ a.2 k.2)) (0,0)
def Cp (a k:Int×Int):Int×Int:=(min a.1 k.1,D9 a.2 k.2)
def Ru:List (Int×Int)->Int×Int
 |[]=>(0,0)
 |k::l=>l.foldl Cp (Cp k k)
def No (op mn mx:Int) (l:List (Int×Int)):Int×Int :=
 if op=1 then (1,1)
 else if op=6 then (0,-1)
 else if op=2 then aey l
 else if op=3\/op=10\/op=4\/op=5\/op=9 then
  (if op=4 then (lq (Ru l).1 mn,lq (Ru l).2 mx) else Ru l)
 else (0,0)
mutual
def Re.lens:Re->Int×Int
 |.mk op _ kids mn mx _ _ _=>No op mn mx (Re.Mu kids)
def Re.Mu:List Re->List (Int×Int)
 |[]=>[]
 |k::l=>k.lens::Re.Mu l
end
theorem Re.MI:∀l:List Re,Re.Mu l=l.map Re.lens
 |[]=>by simp [Re.Mu]
 |k::l=>by simp [Re.Mu,Re.MI l]
theorem Re.Wc (re:Re):re.lens=No re.op re.mn re.mx (re.kids.map Re.lens):=by
 cases re;simp [Re.lens,Re.MI,Re.op,Re.mn,Re.mx,Re.kids]
def mL (f:FuncId):VL.Obj:=⟨0,true,1,[[.cl (.func f) [] [.rf 0 0 0 0]]]⟩
mutual
def Re.cN:Re->Bool
 |.mk _ set kids _ _ _ _ _=>decide (set.length<=1000000000)&&(decide (kids.length<=1000000000)&&Re.OS kids)
def Re.OS:List Re->Bool
 |[]=>true
 |k::l=>k.cN&&Re.OS l
end
theorem Re.Hr:∀l:List Re,Re.OS l=l.all Re.cN
 |[]=>rfl
 |k::l=>by simp [Re.OS,Re.Hr l]
theorem Re.pq (re:Re):re.cN=true ↔ re.set.length<=1000000000/\re.kids.length<=1000000000/\∀k∈re.kids,k.cN=true:=by
 cases re with
 |mk op set kids mn mx mode n neg=>simp only[Re.cN,aji,decide_eq_true_eq,Re.Hr,ajo,Re.set,Re.kids]
theorem Re.fT {re:Re} (h:re.cN=true):re.set.length<=1000000000/\re.kids.length<=1000000000/\∀k∈re.kids,k.cN=true:=(Re.pq re).1 h
def pQ (op mn:Int) (l:List Bool):Bool :=
 if op=0\/op=6\/op=7\/op=8\/op=11 then true
 else if op=2 then l.all id
 else if op=4 then (if mn=0 then true else l.any id)
 else if op=3\/op=10\/op=5\/op=9 then l.any id
 else false
mutual
def Re.iQ:Re->Bool
 |.mk op _ kids mn _ _ _ _=>pQ op mn (Re.MF kids)
def Re.MF:List Re->List Bool
 |[]=>[]
 |k::l=>k.iQ::Re.MF l
end
theorem Re.J2:∀l:List Re,Re.MF l=l.map Re.iQ
 |[]=>by simp [Re.MF]
 |k::l=>by simp [Re.MF,Re.J2 l]
theorem Re.rW (re:Re):re.iQ=pQ re.op re.mn (re.kids.map Re.iQ):=by
 cases re;simp [Re.iQ,Re.J2,Re.op,Re.mn,Re.kids]
def xn (re:Re):Prop:=az prog 94 [gH re,.rf 0 0 0 0] [mL 94] λv s=>v=bV re.iQ/\s=[mL 94]
theorem V1 (re:Re) (ih:∀k∈re.kids,k.cN=true->xn k) (hs:re.cN=true) (o2:re.op=2):xn re:=by
 obtain⟨rk,hlen,Hc⟩:=Re.fT hs;have hle:re.iQ=(re.kids.map Re.iQ).all id:=by rw[Re.rW,o2];rfl
 unfold xn;rw[hle];refine bk func94 ntmps94 results94 1 13519594987718203 ?_;simp only[zJ,simprocAttr,gH,Re.ah re,iD,bD,o2,mL];refine ay (λn e s=>∃i:Nat,n=re.kids.length-i/\i<=re.kids.length/\e 0=gH re/\e 1=.rf 0 0 0 0/\(∀x∈re.kids.take i,x.iQ=true)/\e 22=i64 re.kids.length/\e 23=i64 i/\s=[mL 94])
  ⟨_,_,_,bJ.refl,0,rfl,ae,by simp [gH,Re.ah re,iD,bD,o2];rfl,rfl,aj,rfl,rfl,rfl⟩ ?_
 rintro n e s ⟨i,rfl,hi,h0,h1,bK,QB,TE,rfl⟩;rcases ajr i re.kids.length with aB|iA
 ·obtain⟨k,hk⟩:∃k,re.kids[i]?=some k:=bZ aB;have hm:=ai4 hk;have JM:=Hc k hm;simp only[zW,simprocAttr,h0,h1,QB,TE,i64,aB,mL];refine aA mix [] [(0,[0],[]),(7,[0],[0])] aN ?_;simp only[zW,simprocAttr,h0,h1,QB,TE,i64,aB,hk,gH,Re.ah re,iD,bD];refine vy (ih k hm JM) rfl rfl rfl rfl rfl rfl ?_;cases dZ:k.iQ with
  |true =>
   simp only[zW,simprocAttr,h0,h1,QB,TE,i64,mL,bV,dZ];refine⟨re.kids.length-(i+1),_,_,ae,bJ.refl,i+1,rfl,aB,?_,?_,?_,?_,?_,rfl⟩ <;> (try simp only[zU,gV,cy,cJ,dV,reduceIte])
   ·simpa [gH,Re.ah re,iD,bD]using h0
   ·exact h1
   ·intro x hx;rw[bj hk]at hx;rcases List.mem_append.1 hx with hx|hx
    ·exact bK x hx
    ·rw[List.mem_singleton.1 hx];exact dZ
   ·exact QB
   ·rw[bF _ ae];rfl
  |false =>
   simp only[zW,simprocAttr,h0,h1,QB,TE,i64,mL,bV,dZ];have:(re.kids.map Re.iQ).all id=false:=by rw[akr];exact⟨false,List.mem_map.2 ⟨k,hm,dZ⟩,aj⟩
   rw[this];all_goals exact ed
 ·have dY:i=re.kids.length:=by omega
  subst dY;rw[ajt]at bK;have:(re.kids.map Re.iQ).all id=true:=by rw[ajo];intro x hx;obtain⟨y,hy,rfl⟩:=List.mem_map.1 hx;exact bK y hy
  rw[this];simp only[zW,simprocAttr,h0,h1,QB,TE,i64,mL,aj7,bV];all_goals exact ed
theorem Vd (re:Re) (ih:∀k∈re.kids,k.cN=true->xn k) (hs:re.cN=true) (o:(re.op=4/\¬re.mn=0)\/re.op=3\/re.op=10\/re.op=5\/re.op=9):xn re:=by
 obtain⟨rk,hlen,Hc⟩:=Re.fT hs;have hle:re.iQ=(re.kids.map Re.iQ).any id:=by
  rw[Re.rW];rcases o with ⟨o,om⟩|o|o|o|o <;> rw[o]
  ·simp [pQ,om]
  all_goals rfl
 unfold xn;rw[hle];obtain⟨o2,om⟩:(re.op=4\/re.op=3\/re.op=10\/re.op=5\/re.op=9)/\(re.op=4->¬re.mn=0):=by rcases o with ⟨o,om⟩|o|o|o|o <;> simp [o] <;> exact om
 rcases o2 with o2|o2|o2|o2|o2;all_goals
  refine bk func94 ntmps94 results94 1 13519594987718203 ?_;simp only[zJ,simprocAttr,gH,Re.ah re,iD,bD,o2,om,mL];refine ay (λn e s=>∃i:Nat,n=re.kids.length-i/\i<=re.kids.length/\e 0=gH re/\e 1=.rf 0 0 0 0/\(∀x∈re.kids.take i,x.iQ=false)/\e 52=i64 re.kids.length/\e 53=i64 i/\s=[mL 94])
   ⟨_,_,_,bJ.refl,0,rfl,ae,by simp [gH,Re.ah re,iD,bD,o2];rfl,rfl,aj,rfl,rfl,rfl⟩ ?_
  rintro n e s ⟨i,rfl,hi,h0,h1,bK,QB,TE,rfl⟩;rcases ajr i re.kids.length with aB|iA
  ·obtain⟨k,hk⟩:∃k,re.kids[i]?=some k:=bZ aB;have hm:=ai4 hk;have JM:=Hc k hm;simp only[zW,simprocAttr,h0,h1,QB,TE,i64,aB,mL];refine aA mix [] [(0,[0],[]),(7,[0],[0])] aN ?_;simp only[zW,simprocAttr,h0,h1,QB,TE,i64,aB,hk,gH,Re.ah re,iD,bD];refine vy (ih k hm JM) rfl rfl rfl rfl rfl rfl ?_;cases dZ:k.iQ with
   |false =>
    simp only[zW,simprocAttr,h0,h1,QB,TE,i64,mL,bV,dZ];refine⟨re.kids.length-(i+1),_,_,ae,bJ.refl,i+1,rfl,aB,?_,?_,?_,?_,?_,rfl⟩ <;> (try simp only[zU,gV,cy,cJ,dV,reduceIte])
    ·simpa [gH,Re.ah re,iD,bD,o2]using h0
    ·exact h1
    ·intro x hx;rw[bj hk]at hx;rcases List.mem_append.1 hx with hx|hx
     ·exact bK x hx
     ·rw[List.mem_singleton.1 hx];exact dZ
    ·exact QB
    ·rw[bF _ ae];rfl
   |true =>
    simp only[zW,simprocAttr,h0,h1,QB,TE,i64,mL,bV,dZ];have:(re.kids.map Re.iQ).any id=true:=by rw[List.any_eq_true];exact⟨true,List.mem_map.2 ⟨k,hm,dZ⟩,aj⟩
    rw[this];all_goals exact ed
  ·have dY:i=re.kids.length:=by omega
   subst dY;rw[ajt]at bK;have:(re.kids.map Re.iQ).any id=false:=by rw[List.any_eq_false];intro x hx;obtain⟨y,hy,rfl⟩:=List.mem_map.1 hx;simp [bK y hy]
   rw[this];simp only[zW,simprocAttr,h0,h1,QB,TE,i64,mL,aj7,bV];all_goals exact ed
theorem To (re:Re) (o1:¬re.op=2) (o2:¬re.op=3) (o3:¬re.op=10) (o4:re.op=4->re.mn=0) (o5:¬re.op=5) (o6:¬re.op=9):xn re:=by
 unfold xn;by_cases p4:re.op=4
 ·have hle:re.iQ=true:=by rw[Re.rW,p4,o4 p4];rfl
  rw[hle];have pm:=o4 p4;refine bk func94 ntmps94 results94 1 13519594987718203 ?_;simp only[zJ,simprocAttr,gH,Re.ah re,iD,bD,p4,pm,mL,bV];all_goals exact ed
 by_cases p:re.op=0\/re.op=6\/re.op=7\/re.op=8\/re.op=11
 ·have hle:re.iQ=true:=by rw[Re.rW];simp [pQ,p]
  rw[hle];rcases p with p|p|p|p|p;all_goals
   refine bk func94 ntmps94 results94 1 13519594987718203 ?_;simp only[zJ,simprocAttr,gH,Re.ah re,iD,bD,p,mL,bV];all_goals exact ed
 have hle:re.iQ=false:=by rw[Re.rW];simp [pQ,p,o1,o2,o3,p4,o5,o6]
 rw[hle];have p0:¬re.op=0:=λh=>p (.inl h);have p6:¬re.op=6:=λh=>p (.inr (.inl h));have p7:¬re.op=7:=λh=>p (.inr (.inr (.inl h)));have p8:¬re.op=8:=λh=>p (.inr (.inr (.inr (.inl h))));have p11:¬re.op=11:=λh=>p (.inr (.inr (.inr (.inr h))));refine bk func94 ntmps94 results94 1 13519594987718203 ?_;simp only[zJ,simprocAttr,gH,Re.ah re,iD,bD,o1,o2,o3,p4,o5,o6,p0,p6,p7,p8,p11,mL,bV];all_goals exact ed
theorem Ws (re:Re) (hs:re.cN=true):xn re:=by
 revert hs;refine Re.ind (Q:=λre=>re.cN=true->xn re) (λre ih hs=>?_) re;by_cases o2:re.op=2
 ·exact V1 re ih hs o2
 by_cases o:(re.op=4/\¬re.mn=0)\/re.op=3\/re.op=10\/re.op=5\/re.op=9
 ·exact Vd re ih hs o
 ·exact To re o2 (λh=>o (.inr (.inl h))) (λh=>o (.inr (.inr (.inl h)))) (λh=>by by_cases hm:re.mn=0;exact hm;exact absurd (.inl ⟨h,hm⟩) o) (λh=>o (.inr (.inr (.inr (.inl h))))) (λh=>o (.inr (.inr (.inr (.inr h)))))
theorem Kj (re:Re) (hs:re.cN=true):aM prog 69 [kj re] (bV re.iQ):=by refine bk func69 ntmps69 results69 0 15 ?_;simp only[zJ,simprocAttr,aq re,iD,bD];refine bL [0] rfl ?_;refine PB (r':=bV re.iQ) 1 (Ws re hs) (by rw[gH,Re.ah];rfl) rfl rfl rfl rfl ?_;simp only[zJ,simprocAttr,bA,bP,bf,aS,aS.go,mL,bV];all_goals exact ed
theorem g9 (n lim:Nat) (s:List VL.Obj) (ds:List (List D)) (k:Nat) (hk:ds.length<=k):((ds.map λc=>c.map V.d).take k).mapM (λ(e:List V)=>e.mapM (cR n lim s))=some ds:=by rw[ajb (by simpa using hk),oV]
theorem Pm (c:aD) (n:Int) (hc:c.length<=1000000000):aM prog 103 [.d (df c),i64 n] (.ag [i64 (bG c n).1,i64 (bG c n).2]):=by
 by_cases c1:n<1
 ·have hs:bG c n=(-1,-1):=by simp [bG,c1]
  rw[hs];refine bk func103 ntmps103 results103 0 19 ?_;simp only[zI,simprocAttr,iD,df,aU,c1]
 ·by_cases c2:(c.length:Int)<n
  ·have hs:bG c n=(-1,-1):=by simp [bG,c2]
   rw[hs];refine bk func103 ntmps103 results103 0 19 ?_;simp only[zI,simprocAttr,iD,df,aU,c1,c2,gt_iff_lt]
  ·have hs:bG c n=c.getD (n-1).toNat (-1,-1):=by rw[bG,bd]
   have w1:IntKind.i64.wrap (n-1)=n-1:=bF _ ae;have aB:(n-1).toNat<c.length:=ae;have hg:c[(n-1).toNat]?=some c[(n-1).toNat]:=ajg aB;have b1:0<=n-1:=ae;have b2:n-1<(c.length:Int):=ae;rw[hs,List.getD,hg,akl];refine bk func103 ntmps103 results103 0 19 ?_;simp only[zI,simprocAttr,iD,df,aU,c1,c2,gt_iff_lt,w1,hg,b1,b2]
theorem VY (c:aD) (n fH to:Int) (hc:c.length<=1000000000):aM prog 81 [.d (df c),i64 n,i64 fH,i64 to] (.d (df (ou c n fH to))):=by
 have tO:∀e∈(c.map aU).map (λx=>x.map V.d),e.length=2:=λe he=>by obtain⟨x,hx,rfl⟩:=List.mem_map.1 he;obtain⟨p,_,rfl⟩:=List.mem_map.1 hx;rfl
 refine bk func81 ntmps81 results81 0 783 ?_;simp only[zI,simprocAttr,df];refine⟨tO,⟨ae,aj⟩,?_⟩;by_cases c1:1<=n
 ·by_cases c2:n<=(c.length:Int)
  ·have w1:IntKind.i64.wrap (n-1)=n-1:=bF _ ae;have aB:(n-1).toNat<c.length:=ae;have b1:0<=n-1:=ae;have b2:n-1<(c.length:Int):=ae;have hw:ou c n fH to=c.set (n-1).toNat (fH,to):=by rw[ou,be ⟨c1,c2⟩]
   have gD:((c.map aU).map (λx=>x.map V.d)).set (n-1).toNat [i64 fH,i64 to]=((c.set (n-1).toNat (fH,to)).map aU).map (λx=>x.map V.d):=by rw[akv,akv];rfl
   have hgc:c[(n-1).toNat]?=some c[(n-1).toNat]:=ajg aB;rw[hw];simp only[zI,simprocAttr,ai7,c1,c2,w1,aB,b1,b2,hgc,aU];simp only[i64]at gD;rw[gD,g9 7 0 _ _ _ aj,be aj];rfl
  ·have hw:ou c n fH to=c:=by rw[ou,bd]
   rw[hw];simp only[zI,simprocAttr,ai7,c1,c2];rw[g9 7 0 _ _ _ aj,be aj];rfl
 ·have hw:ou c n fH to=c:=by rw[ou,bd]
  rw[hw];simp only[zI,simprocAttr,ai7,c1];rw[g9 7 0 _ _ _ aj,be aj];rfl
theorem VM (n:Int) (hn:n<=1000000):aM prog 51 [i64 n] (.d (df (List.replicate n.toNat (-1,-1)))):=by
 refine bk func51 ntmps51 results51 0 29 ?_;simp only[E6,BB,BG,simprocAttr,nX,i64];refine ay (λm e s=>∃i:Nat,m=n.toNat-i/\i<=n.toNat/\e 0=i64 n/\e 4=i64 i/\Acc [] 2 (e 3) s ((List.replicate i (-1,-1)).map aU))
  ⟨_,_,_,bJ.refl,0,rfl,ae,rfl,rfl,.inl ⟨rfl,rfl⟩⟩ ?_
 rintro m e s ⟨i,rfl,hi,h0,h4,iz⟩;rcases ajr i n.toNat with aB|iA
 ·have aH:(i:Int)<n:=by omega
  simp only[E6,BB,BG,simprocAttr,nX,i64,h0,h4,aH];refine iz.append XI rfl aJ aJ (by intro y hy;obtain⟨z,_,rfl⟩:=List.mem_map.1 hy;rfl) aj aj (by simp only[aiW,aj6,ai8,ai9];omega) (λv' s' DD=>?_);simp only[E6,BB,BG,simprocAttr,nX,i64,h0,h4];refine⟨n.toNat-(i+1),_,_,ae,bJ.refl,i+1,rfl,aB,?_,?_,?_⟩ <;> (try simp only[zU,gV,cy,cJ,dV,reduceIte])
  ·exact h0
  ·rw[bF _ ae];rfl
  ·rw[List.replicate_succ',akf];exact DD
 ·have dY:i=n.toNat:=by omega
  subst dY;have aH:¬(n.toNat:Int)<n:=ae;simp only[E6,BB,BG,simprocAttr,nX,i64,h0,h4,aH];rw[iz.Zl aj];rfl
theorem u6 {α:Type} (l:List α) (f:α->D) (n:Nat):((l.map λx=>[V.d (f x)]).all λe=>e.all (ak n))=true:=by rw[ajo];intro e he;obtain⟨x,_,rfl⟩:=List.mem_map.1 he;rfl
def dL (g0:Nat) (t:List Int) (most F:Int) (st:bh):VL.Obj :=
 ⟨g0,true,7,[[.d (an t),i64 most,i64 F,i64 st.steps,bV st.empty,.so 1 st.ends.length 0 st.ends.length,.so 2 st.ends.length 0 st.ai.length]]⟩
def cb (g0:Nat) (t:List Int) (most F:Int) (st:bh):List VL.Obj :=
 [dL g0 t most F st,⟨st.ends.length,true,1,st.ends.map λx=>[V.d (iD x)]⟩,⟨st.ends.length,true,1,st.ai.map λc=>[V.d (df c)]⟩]
theorem Wn (g0:Nat) (t:List Int) (most F:Int) (st:bh) (h0:0<=st.steps) (h1:st.steps<=10000000000000) :
  az prog 101 [.rf 0 g0 0 0] (cb g0 t most F st) λv s=>v=bV (!(st.step F).empty)/\s=cb g0 t most F (st.step F):=by
 have w1:IntKind.i64.wrap (st.steps+1)=st.steps+1:=bF _ ae;unfold cb dL bh.step;by_cases c:F<st.steps+1
 ·refine bk func101 ntmps101 results101 3 5 ?_;simp only[zI,simprocAttr,bV,w1];refine aA mix [] [] aN ?_;simp only[zI,simprocAttr,bV,w1,gt_iff_lt,c,Bool.or_true];simp only[u6,aka]
 ·refine bk func101 ntmps101 results101 3 5 ?_;simp only[zI,simprocAttr,bV,w1];refine aA mix [] [] aN ?_;simp only[zI,simprocAttr,bV,w1,gt_iff_lt,c,ce c,akq];simp only[u6,aka]
end Go.Proofs.Ytfmdmlfhigocaaa
