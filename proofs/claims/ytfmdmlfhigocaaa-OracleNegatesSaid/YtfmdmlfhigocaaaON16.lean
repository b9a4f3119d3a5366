/- A part of the proof (F4 F5 F13 F15 F16 G5). -/
import Derived.Test.YtfmdmlfhigocaaaON13
import Derived.Test.YtfmdmlfhigocaaaON15
set_option linter.unusedSimpArgs false
set_option linter.unusedVariables false
open Nat renaming reduceShiftRight → cQ, reduceMod → dx, reduceEqDiff → eI, reduceBEq → gj
set_option maxRecDepth 100000
set_option maxHeartbeats 80000000
namespace Go.Proofs.Ytfmdmlfhigocaaa
open Go.VL Go.Proofs.Try
structure Mk where
 l:List Int
 pos:Int
 cu:Int
 left:Int
 ak:Int
def bR (m:Mk):VL.Obj:=⟨0,true,5,[[.d (al m.l),i64 m.pos,i64 m.cu,i64 m.left,i64 m.ak]]⟩
def b9:V:=.rf 0 0 0 0
structure Mk.ok (m:Mk):Prop where
 l:∀x∈m.l,jC x
 pos:0<=m.pos/\m.pos<=1000000000
 left:-1000000000<=m.left/\m.left<=1000000000
 ak:0<=m.ak/\m.ak<=1000000000
def Mk.next (m:Mk) (n:Int):Int×Mk:=(pick m.l m.pos n,{ m with pos:=m.pos+1 })
theorem bT (m:Mk) (hl:∀x∈m.l,jC x) (hp:0<=m.pos/\m.pos<=1000000000) (n:Int) (hn:1<=n):aq prog 87 [b9,i64 n] [bR m] λv s=>v=i64 (m.next n).1/\s=[bR (m.next n).2]:=by
 have w1:IntKind.i64.wrap (m.pos+1)=m.pos+1:=bd _ (by omega);have w2:IntKind.i64.wrap (m.pos+1-1)=m.pos:=by rw[bd _ (by omega)];omega
 refine an func87 rfl ntmps87 results87 rfl 1 19 (by simp) (by simp) ?_;simp only[zW,simprocAttr,i64,b9,bR,w1,w2];refine ar mix [] [] (by rfl) ?_;simp only[zW,simprocAttr,i64,b9,bR,w1,w2];refine bp (AM m.l hl m.pos n hn) rfl rfl ?_;simp only[zW,simprocAttr,i64,b9,bR,w1,w2,Mk.next]
def qb:List (List (Int×Int)):=[[(97,97)],[(98,98)],[(97,98)],[(99,99)],[(97,99)],[(0,96),(98,255)],[(10,10),(97,97)],[]]
def Re.QW (set:List (Int×Int)):Re:=.mk 1 set [] 0 0 0 0 false
def Mk.set (m:Mk):Re×Mk :=
 let (k,m1):=m.next 15
 (Re.QW ((qb[(k / 2).toNat]?).getD []),m1)
theorem cb (l:List Int) (i m:Int) (hm:1<=m):0<=pick l i m/\pick l i m<m:=by
 unfold pick pM;split
 ·omega
 ·split
  ·rename_i h;have h1:0<=-(l[i.toNat]?.getD 0+1):=by omega
   exact⟨Int.tmod_nonneg _ h1,Int.tmod_lt_of_pos _ (by omega)⟩
  ·rename_i h;exact⟨Int.tmod_nonneg _ (by omega),Int.tmod_lt_of_pos _ (by omega)⟩
theorem jK (m:Mk) (hl:∀x∈m.l,jC x) (hp:0<=m.pos/\m.pos<=1000000000):aq prog 88 [b9] [bR m] λv s=>v=fv m.set.1/\s=[bR m.set.2]:=by
 have hk:=cb m.l m.pos 15 (by omega);have hd:(pick m.l m.pos 15).tdiv 2=pick m.l m.pos 15 / 2:=by rw[Int.tdiv_eq_ediv_of_nonneg hk.1]
 have w1:IntKind.i64.wrap (pick m.l m.pos 15 / 2)=pick m.l m.pos 15 / 2:=bd _ (by omega);refine an func88 rfl ntmps88 results88 rfl 1 13 (by simp) (by simp) ?_;simp only[zW,simprocAttr,i64,b9];refine aJ (bT m hl hp 15 (by omega)) rfl rfl rfl rfl rfl rfl ?_;have hc:pick m.l m.pos 15 / 2=0\/pick m.l m.pos 15 / 2=1\/pick m.l m.pos 15 / 2=2\/pick m.l m.pos 15 / 2=3\/pick m.l m.pos 15 / 2=4\/pick m.l m.pos 15 / 2=5\/pick m.l m.pos 15 / 2=6\/pick m.l m.pos 15 / 2=7:=by omega
 simp only[zW,simprocAttr,i64,b9,Mk.next,hd,w1];rcases hc with hc|hc|hc|hc|hc|hc|hc|hc <;> (simp only[zW,simprocAttr,hc,Mk.set,Mk.next,qb,Re.QW,Int.toNat_zero,fv,Re.cells];first|exact⟨by omega,rfl,rfl⟩|exact⟨rfl,rfl⟩|rfl)
mutual
def Re.vl:Re->Bool
 |.mk op _ kids mn _ _ _ _=>if op=1 then false else if op=2 then Re.wk kids else if op=3\/op=10 then Re.ss kids else if op=4 then decide (mn<=0)||Re.uQ kids else if op=5\/op=9 then Re.uQ kids else true
def Re.wk:List Re->Bool
 |[]=>true
 |k::l=>k.vl&&Re.wk l
def Re.ss:List Re->Bool
 |[]=>false
 |k::l=>k.vl||Re.ss l
def Re.uQ:List Re->Bool
 |[]=>false
 |k::_=>k.vl
end
theorem Re.vT (re:Re):re.vl=if re.op=1 then false else if re.op=2 then Re.wk re.kids else if re.op=3\/re.op=10 then Re.ss re.kids else if re.op=4 then decide (re.mn<=0)||Re.uQ re.kids else if re.op=5\/re.op=9 then Re.uQ re.kids else true:=by
 cases re;simp only[Re.vl,Re.op,Re.kids,Re.mn];rfl
theorem Re.vQ:∀l:List Re,Re.wk l=l.all Re.vl
 |[]=>rfl
 |k::l=>by simp [Re.wk,Re.vQ l]
theorem Re.vJ:∀l:List Re,Re.ss l=l.any Re.vl
 |[]=>rfl
 |k::l=>by simp [Re.ss,Re.vJ l]
theorem bu {α:Type}{l:List α}{i:Nat}{k x:α} (h:l[i]?=some k) (hx:x∈l.take (i+1)):x∈l.take i\/x=k:=by rw[aR h]at hx;simpa using hx
theorem gJ (re:Re):re.size<=1000000000->aO prog 95 [fv re] (bV re.vl):=by
 induction re using Re.ind with
 |h re ih =>
 intro hs;have hlen:=Re.lO re.kids;have fF:=Re.size_eq re;refine an func95 rfl ntmps95 results95 rfl 0 576460752336978015 (by simp) (by simp) ?_;by_cases o1:re.op=1
 ·simp only[zW,simprocAttr,ai re,iD,bD,bV,o1,Re.vT re]
 by_cases o2:re.op=2
 ·simp only[zW,simprocAttr,ai re,iD,bD,bV,o2];refine au (λn e s=>∃i:Nat,n=re.kids.length-i/\i<=re.kids.length/\e 1=.rf 0 0 0 0/\e 3=i64 i/\(∀x∈re.kids.take i,x.vl=true)/\s=[⟨0,true,8,[re.cells.map .d]⟩]) ⟨_,_,_,br.refl,0,rfl,by simp,rfl,rfl,by simp,by simp [Re.ae re,iD,bD,o2]⟩ ?_;rintro n e s ⟨i,rfl,hi,h1,h3,hn,rfl⟩;rcases agi i re.kids.length with az|fI
  ·obtain⟨k,hk⟩:∃k,re.kids[i]?=some k:=⟨_,afP az⟩
   have hm:=afW hk;have wC:=Re.bL hm;simp only[zW,simprocAttr,Re.ae re,iD,bD,h1,h3,i64,az,hk];refine aj (ih k hm (by omega)) (by simp [ah,ah.go,ai,i64,bV,aM]) (by simp [ah,ah.go,ai,i64,bV,aM]) ?_;cases cU:k.vl with
   |false =>
    simp only[zW,simprocAttr,bV,cU];have:Re.wk re.kids=false:=by rw[Re.vQ,agY];exact⟨k,hm,by simp [cU]⟩
    simp [Re.vT re,o2,this]
   |true =>
    simp only[zW,simprocAttr,bV,cU,h3,i64];refine⟨_,_,_,?_,br.refl,i+1,rfl,az,?_⟩
    ·omega
    simp only[bz,eI,if_true,if_false];refine⟨h1,?_,λx hx=>?_,by simp [Re.ae re,iD,bD]⟩
    ·rw[bd _ (by omega)];rfl
    ·rcases bu hk hx with h|rfl
     ·exact hn x h
     ·exact cU
  ·have cV:i=re.kids.length:=by omega
   subst cV;simp only[zW,simprocAttr,Re.ae re,iD,bD,h1,h3,i64,agK,bV];have:Re.wk re.kids=true:=by rw[Re.vQ,af8];simpa using hn
   simp [Re.vT re,o2,this]
 by_cases o3:re.op=3\/re.op=10
 ·have hr:re.vl=Re.ss re.kids:=by simp [Re.vT re,o1,o2,o3]
  rcases o3 with o3|o3;all_goals
   simp only[zW,simprocAttr,ai re,iD,bD,bV,o1,o2,o3];refine au (λn e s=>∃i:Nat,n=re.kids.length-i/\i<=re.kids.length/\e 1=.rf 0 0 0 0/\e 4=i64 i/\(∀x∈re.kids.take i,x.vl=false)/\s=[⟨0,true,8,[re.cells.map .d]⟩]) ⟨_,_,_,br.refl,0,rfl,by simp,rfl,rfl,by simp,by simp [Re.ae re,iD,bD,o3]⟩ ?_;rintro n e s ⟨i,rfl,hi,h1,h3,hn,rfl⟩;rcases agi i re.kids.length with az|fI
   ·obtain⟨k,hk⟩:∃k,re.kids[i]?=some k:=⟨_,afP az⟩
    have hm:=afW hk;have wC:=Re.bL hm;simp only[zW,simprocAttr,Re.ae re,iD,bD,h1,h3,i64,az,hk];refine aj (ih k hm (by omega)) (by simp [ah,ah.go,ai,i64,bV,aM]) (by simp [ah,ah.go,ai,i64,bV,aM]) ?_;cases cU:k.vl with
    |true =>
     simp only[zW,simprocAttr,bV,cU];have:Re.ss re.kids=true:=by rw[Re.vJ,List.any_eq_true];exact⟨k,hm,by simp [cU]⟩
     simp [hr,this]
    |false =>
     simp only[zW,simprocAttr,bV,cU,h3,i64];refine⟨_,_,_,?_,br.refl,i+1,rfl,az,?_⟩
     ·omega
     simp only[bz,eI,if_true,if_false];refine⟨h1,?_,λx hx=>?_,by simp [Re.ae re,iD,bD]⟩
     ·rw[bd _ (by omega)];rfl
     ·rcases bu hk hx with h|rfl
      ·exact hn x h
      ·exact cU
   ·have cV:i=re.kids.length:=by omega
    subst cV;simp only[zW,simprocAttr,Re.ae re,iD,bD,h1,h3,i64,agK,bV];have:Re.ss re.kids=false:=by rw[Re.vJ,List.any_eq_false];simpa using hn
    simp [hr,this]
 have TY:¬re.op=3:=λh=>o3 (.inl h);have J2:¬re.op=10:=λh=>o3 (.inr h);by_cases o4:re.op=4
 ·have hr:re.vl=(decide (re.mn<=0)||Re.uQ re.kids):=by simp [Re.vT re,o4]
  by_cases hmn:re.mn<=0
  ·simp only[zW,simprocAttr,ai re,iD,bD,bV,o1,o2,TY,J2,o4,hmn];simp [hr,hmn]
  cases hk:re.kids with
  |nil =>
   simp only[zW,simprocAttr,ai re,iD,bD,bV,o1,o2,TY,J2,o4,hmn,hk,afU];simp [hr,hmn,hk,Re.uQ]
  |cons k l =>
   have hm:k∈re.kids:=by simp [hk]
   have wC:=Re.bL hm;have cY:(0:Int)<((l.length+1:Nat):Int):=by omega
   simp only[zW,simprocAttr,ai re,iD,bD,bV,o1,o2,TY,J2,o4,hmn,hk,afR,cY];refine aj (ih k hm (by omega)) (by simp [ah,ah.go,ai,i64,bV,aM]) (by simp [ah,ah.go,ai,i64,bV,aM]) ?_;cases cU:k.vl with
   |true =>
    simp only[zW,simprocAttr,bV,cU];simp [hr,hmn,hk,Re.uQ,cU]
   |false =>
    simp only[zW,simprocAttr,bV,cU];simp [hr,hmn,hk,Re.uQ,cU]
 by_cases o5:re.op=5\/re.op=9
 ·have hr:re.vl=Re.uQ re.kids:=by simp [Re.vT re,o1,o2,o3,o4,o5]
  rcases o5 with o5|o5;all_goals
   cases hk:re.kids with
   |nil =>
    simp only[zW,simprocAttr,ai re,iD,bD,bV,o1,o2,TY,J2,o4,o5,hk,afU];simp [hr,hk,Re.uQ]
   |cons k l =>
    have hm:k∈re.kids:=by simp [hk]
    have wC:=Re.bL hm;have cY:(0:Int)<((l.length+1:Nat):Int):=by omega
    simp only[zW,simprocAttr,ai re,iD,bD,bV,o1,o2,TY,J2,o4,o5,hk,afR,cY];refine aj (ih k hm (by omega)) (by simp [ah,ah.go,ai,i64,bV,aM]) (by simp [ah,ah.go,ai,i64,bV,aM]) ?_;cases cU:k.vl with
    |true =>
     simp only[zW,simprocAttr,bV,cU];simp [hr,hk,Re.uQ,cU]
    |false =>
     simp only[zW,simprocAttr,bV,cU];simp [hr,hk,Re.uQ,cU]
 have o5':¬re.op=5:=λh=>o5 (.inl h);have o9:¬re.op=9:=λh=>o5 (.inr h);simp only[zW,simprocAttr,ai re,iD,bD,bV,o1,o2,TY,J2,o4,o5',o9];simp [Re.vT re,o1,o2,o3,o4,o5]
def TB (a b:Int):Int:=if a<0\/b<0 then -1 else min (IntKind.i64.wrap (a+b)) 1000000
def PE (a b:Int):Int:=if a<0\/b<0 then -1 else max a b
def QI (a b:Int):Int:=if a=0\/b=0 then 0 else if a<0\/b<0 then -1 else min (IntKind.i64.wrap (a*b)) 1000000
def abr (l:List (Int×Int)):Int×Int:=l.foldl (λa k=>(TB a.1 k.1,TB a.2 k.2)) (0,0)
def U0 (a k:Int×Int):Int×Int:=(min a.1 k.1,PE a.2 k.2)
def VN:List (Int×Int)->Int×Int
 |[]=>(0,0)
 |k::l=>l.foldl U0 (U0 k k)
def UR (op mn mx:Int) (l:List (Int×Int)):Int×Int :=
 if op=1 then (1,1)
 else if op=6 then (0,-1)
 else if op=2 then abr l
 else if op=3\/op=10\/op=4\/op=5\/op=9 then
  (if op=4 then (QI (VN l).1 mn,QI (VN l).2 mx) else VN l)
 else (0,0)
mutual
def Re.lens:Re->Int×Int
 |.mk op _ kids mn mx _ _ _=>UR op mn mx (Re.JI kids)
def Re.JI:List Re->List (Int×Int)
 |[]=>[]
 |k::l=>k.lens::Re.JI l
end
theorem Re.RA:∀l:List Re,Re.JI l=l.map Re.lens
 |[]=>by simp [Re.JI]
 |k::l=>by simp [Re.JI,Re.RA l]
def lK (f:FuncId):VL.Obj:=⟨0,true,1,[[.cl (.func f) [] [.rf 0 0 0 0]]]⟩
mutual
def Re.bC:Re->Bool
 |.mk _ set kids _ _ _ _ _=>decide (set.length<=1000000000)&&(decide (kids.length<=1000000000)&&Re.LN kids)
def Re.LN:List Re->Bool
 |[]=>true
 |k::l=>k.bC&&Re.LN l
end
theorem Re.ET:∀l:List Re,Re.LN l=l.all Re.bC
 |[]=>rfl
 |k::l=>by simp [Re.LN,Re.ET l]
theorem Re.mC (re:Re):re.bC=true ↔ re.set.length<=1000000000/\re.kids.length<=1000000000/\∀k∈re.kids,k.bC=true:=by
 cases re with
 |mk op set kids mn mx mode n neg=>simp only[Re.bC,agb,decide_eq_true_eq,Re.ET,af8,Re.set,Re.kids]
theorem Re.cA {re:Re} (h:re.bC=true):re.set.length<=1000000000/\re.kids.length<=1000000000/\∀k∈re.kids,k.bC=true:=(Re.mC re).1 h
def Cw (op mn:Int) (l:List Bool):Bool :=
 if op=0\/op=6\/op=7\/op=8\/op=11 then true
 else if op=2 then l.all id
 else if op=4 then (if mn=0 then true else l.any id)
 else if op=3\/op=10\/op=5\/op=9 then l.any id
 else false
mutual
def Re.jR:Re->Bool
 |.mk op _ kids mn _ _ _ _=>Cw op mn (Re.JW kids)
def Re.JW:List Re->List Bool
 |[]=>[]
 |k::l=>k.jR::Re.JW l
end
theorem Re.Ht:∀l:List Re,Re.JW l=l.map Re.jR
 |[]=>by simp [Re.JW]
 |k::l=>by simp [Re.JW,Re.Ht l]
theorem Re.qw (re:Re):re.jR=Cw re.op re.mn (re.kids.map Re.jR):=by
 cases re;simp [Re.jR,Re.Ht,Re.op,Re.mn,Re.kids]
def vh (re:Re):Prop:=aq prog 94 [aM re,.rf 0 0 0 0] [lK 94] λv s=>v=bV re.jR/\s=[lK 94]
theorem S3 (re:Re) (ih:∀k∈re.kids,k.bC=true->vh k) (hs:re.bC=true) (o2:re.op=2):vh re:=by
 obtain⟨ie,hlen,rQ⟩:=Re.cA hs;have hle:re.jR=(re.kids.map Re.jR).all id:=by rw[Re.qw,o2];rfl
 unfold vh;rw[hle];refine an func94 rfl ntmps94 results94 rfl 1 13519594987718203 (by simp) (by simp) ?_;simp only[zW,simprocAttr,i64,aM,Re.ae re,iD,bD,o2,lK];refine au (λn e s=>∃i:Nat,n=re.kids.length-i/\i<=re.kids.length/\e 0=aM re/\e 1=.rf 0 0 0 0/\(∀x∈re.kids.take i,x.jR=true)/\e 22=i64 re.kids.length/\e 23=i64 i/\s=[lK 94])
  ⟨_,_,_,br.refl,0,rfl,by omega,by simp [aM,Re.ae re,iD,bD,o2];rfl,rfl,by simp,rfl,rfl,rfl⟩ ?_
 rintro n e s ⟨i,rfl,hi,h0,h1,bA,Nk,Qz,rfl⟩;rcases agi i re.kids.length with az|fI
 ·obtain⟨k,hk⟩:∃k,re.kids[i]?=some k:=⟨_,afP az⟩
  have hm:=afW hk;have wC:=rQ k hm;simp only[zW,simprocAttr,h0,h1,Nk,Qz,i64,az,lK];refine ar mix [] [(0,[0],[]),(7,[0],[0])] (by rfl) ?_;simp only[zW,simprocAttr,h0,h1,Nk,Qz,i64,az,hk,aM,Re.ae re,iD,bD];refine tz (ih k hm wC) rfl rfl rfl rfl rfl rfl ?_;cases cU:k.jR with
  |true =>
   simp only[zW,simprocAttr,h0,h1,Nk,Qz,i64,lK,bV,cU];refine⟨re.kids.length-(i+1),_,_,by omega,br.refl,i+1,rfl,az,?_,?_,?_,?_,?_,rfl⟩ <;> (try simp only[zU,gj,cQ,dx,eI,reduceIte])
   ·simpa [aM,Re.ae re,iD,bD]using h0
   ·exact h1
   ·intro x hx;rw[aR hk]at hx;rcases List.mem_append.1 hx with hx|hx
    ·exact bA x hx
    ·rw[List.mem_singleton.1 hx];exact cU
   ·exact Nk
   ·rw[bd _ (by omega)];rfl
  |false =>
   simp only[zW,simprocAttr,h0,h1,Nk,Qz,i64,lK,bV,cU];have:(re.kids.map Re.jR).all id=false:=by rw[agY];exact⟨false,List.mem_map.2 ⟨k,hm,cU⟩,by simp⟩
   rw[this];all_goals first|exact⟨rfl,rfl⟩|exact⟨rfl,trivial⟩|rfl|trivial|(rw[ai];rfl)
 ·have cV:i=re.kids.length:=by omega
  subst cV;rw[agj]at bA;have:(re.kids.map Re.jR).all id=true:=by rw[af8];intro x hx;obtain⟨y,hy,rfl⟩:=List.mem_map.1 hx;exact bA y hy
  rw[this];simp only[zW,simprocAttr,h0,h1,Nk,Qz,i64,lK,agK,bV];all_goals first|exact⟨rfl,rfl⟩|exact⟨rfl,trivial⟩|rfl|trivial|(rw[ai];rfl)
theorem Sb (re:Re) (ih:∀k∈re.kids,k.bC=true->vh k) (hs:re.bC=true) (o:(re.op=4/\¬re.mn=0)\/re.op=3\/re.op=10\/re.op=5\/re.op=9):vh re:=by
 obtain⟨ie,hlen,rQ⟩:=Re.cA hs;have hle:re.jR=(re.kids.map Re.jR).any id:=by
  rw[Re.qw];rcases o with ⟨o,om⟩|o|o|o|o <;> rw[o]
  ·simp [Cw,om]
  all_goals rfl
 unfold vh;rw[hle];obtain⟨o2,om⟩:(re.op=4\/re.op=3\/re.op=10\/re.op=5\/re.op=9)/\(re.op=4->¬re.mn=0):=by rcases o with ⟨o,om⟩|o|o|o|o <;> simp [o] <;> exact om
 rcases o2 with o2|o2|o2|o2|o2;all_goals
  refine an func94 rfl ntmps94 results94 rfl 1 13519594987718203 (by simp) (by simp) ?_;simp only[zW,simprocAttr,i64,aM,Re.ae re,iD,bD,o2,om,lK];refine au (λn e s=>∃i:Nat,n=re.kids.length-i/\i<=re.kids.length/\e 0=aM re/\e 1=.rf 0 0 0 0/\(∀x∈re.kids.take i,x.jR=false)/\e 52=i64 re.kids.length/\e 53=i64 i/\s=[lK 94])
   ⟨_,_,_,br.refl,0,rfl,by omega,by simp [aM,Re.ae re,iD,bD,o2];rfl,rfl,by simp,rfl,rfl,rfl⟩ ?_
  rintro n e s ⟨i,rfl,hi,h0,h1,bA,Nk,Qz,rfl⟩;rcases agi i re.kids.length with az|fI
  ·obtain⟨k,hk⟩:∃k,re.kids[i]?=some k:=⟨_,afP az⟩
   have hm:=afW hk;have wC:=rQ k hm;simp only[zW,simprocAttr,h0,h1,Nk,Qz,i64,az,lK];refine ar mix [] [(0,[0],[]),(7,[0],[0])] (by rfl) ?_;simp only[zW,simprocAttr,h0,h1,Nk,Qz,i64,az,hk,aM,Re.ae re,iD,bD];refine tz (ih k hm wC) rfl rfl rfl rfl rfl rfl ?_;cases cU:k.jR with
   |false =>
    simp only[zW,simprocAttr,h0,h1,Nk,Qz,i64,lK,bV,cU];refine⟨re.kids.length-(i+1),_,_,by omega,br.refl,i+1,rfl,az,?_,?_,?_,?_,?_,rfl⟩ <;> (try simp only[zU,gj,cQ,dx,eI,reduceIte])
    ·simpa [aM,Re.ae re,iD,bD,o2]using h0
    ·exact h1
    ·intro x hx;rw[aR hk]at hx;rcases List.mem_append.1 hx with hx|hx
     ·exact bA x hx
     ·rw[List.mem_singleton.1 hx];exact cU
    ·exact Nk
    ·rw[bd _ (by omega)];rfl
   |true =>
    simp only[zW,simprocAttr,h0,h1,Nk,Qz,i64,lK,bV,cU];have:(re.kids.map Re.jR).any id=true:=by rw[List.any_eq_true];exact⟨true,List.mem_map.2 ⟨k,hm,cU⟩,by simp⟩
    rw[this];all_goals first|exact⟨rfl,rfl⟩|exact⟨rfl,trivial⟩|rfl|trivial|(rw[ai];rfl)
  ·have cV:i=re.kids.length:=by omega
   subst cV;rw[agj]at bA;have:(re.kids.map Re.jR).any id=false:=by rw[List.any_eq_false];intro x hx;obtain⟨y,hy,rfl⟩:=List.mem_map.1 hx;simp [bA y hy]
   rw[this];simp only[zW,simprocAttr,h0,h1,Nk,Qz,i64,lK,agK,bV];all_goals first|exact⟨rfl,rfl⟩|exact⟨rfl,trivial⟩|rfl|trivial|(rw[ai];rfl)
theorem Qh (re:Re) (o1:¬re.op=2) (o2:¬re.op=3) (o3:¬re.op=10) (o4:re.op=4->re.mn=0) (o5:¬re.op=5) (o6:¬re.op=9):vh re:=by
 unfold vh;by_cases p4:re.op=4
 ·have hle:re.jR=true:=by rw[Re.qw,p4,o4 p4];rfl
  rw[hle];have pm:=o4 p4;refine an func94 rfl ntmps94 results94 rfl 1 13519594987718203 (by simp) (by simp) ?_;simp only[zW,simprocAttr,i64,aM,Re.ae re,iD,bD,p4,pm,lK,bV];all_goals first|exact⟨rfl,rfl⟩|exact⟨rfl,trivial⟩|rfl|trivial|(rw[ai];rfl)
 by_cases p:re.op=0\/re.op=6\/re.op=7\/re.op=8\/re.op=11
 ·have hle:re.jR=true:=by rw[Re.qw];simp [Cw,p]
  rw[hle];rcases p with p|p|p|p|p;all_goals
   refine an func94 rfl ntmps94 results94 rfl 1 13519594987718203 (by simp) (by simp) ?_;simp only[zW,simprocAttr,i64,aM,Re.ae re,iD,bD,p,lK,bV];all_goals first|exact⟨rfl,rfl⟩|exact⟨rfl,trivial⟩|rfl|trivial|(rw[ai];rfl)
 have hle:re.jR=false:=by rw[Re.qw];simp [Cw,p,o1,o2,o3,p4,o5,o6]
 rw[hle];have p0:¬re.op=0:=λh=>p (.inl h);have p6:¬re.op=6:=λh=>p (.inr (.inl h));have p7:¬re.op=7:=λh=>p (.inr (.inr (.inl h)));have p8:¬re.op=8:=λh=>p (.inr (.inr (.inr (.inl h))));have Yt:¬re.op=11:=λh=>p (.inr (.inr (.inr (.inr h))));refine an func94 rfl ntmps94 results94 rfl 1 13519594987718203 (by simp) (by simp) ?_;simp only[zW,simprocAttr,i64,aM,Re.ae re,iD,bD,o1,o2,o3,p4,o5,o6,p0,p6,p7,p8,Yt,lK,bV];all_goals first|exact⟨rfl,rfl⟩|exact⟨rfl,trivial⟩|rfl|trivial|(rw[ai];rfl)
theorem Tu (re:Re) (hs:re.bC=true):vh re:=by
 revert hs;refine Re.ind (Q:=λre=>re.bC=true->vh re) (λre ih hs=>?_) re;by_cases o2:re.op=2
 ·exact S3 re ih hs o2
 by_cases o:(re.op=4/\¬re.mn=0)\/re.op=3\/re.op=10\/re.op=5\/re.op=9
 ·exact Sb re ih hs o
 ·exact Qh re o2 (λh=>o (.inr (.inl h))) (λh=>o (.inr (.inr (.inl h)))) (λh=>by by_cases hm:re.mn=0;exact hm;exact absurd (.inl ⟨h,hm⟩) o) (λh=>o (.inr (.inr (.inr (.inl h))))) (λh=>o (.inr (.inr (.inr (.inr h)))))
theorem HG (re:Re) (hs:re.bC=true):aO prog 69 [fv re] (bV re.jR):=by refine an func69 rfl ntmps69 results69 rfl 0 15 (by simp) (by simp) ?_;simp only[zW,simprocAttr,i64,ai re,iD,bD];refine bc [0] rfl ?_;refine Mv (r':=bV re.jR) 1 (Tu re hs) (by rw[aM,Re.ae];rfl) rfl rfl rfl rfl ?_;simp only[zW,simprocAttr,i64,bE,bM,aT,aL,aL.go,lK,bV];all_goals first|exact⟨rfl,rfl⟩|exact⟨rfl,trivial⟩|rfl|trivial|(rw[ai];rfl)
theorem eH (n lim:Nat) (s:List VL.Obj) (ds:List (List D)) (k:Nat) (hk:ds.length<=k):((ds.map λc=>c.map V.d).take k).mapM (λ(e:List V)=>e.mapM (cj n lim s))=some ds:=by rw[af1 (by simpa using hk),pR]
theorem iv (l:List (Int×Int)) (hl:l.length<=1000000000):aO prog 78 [.d (.sl (l.map aV))] (.d (.sl (l.map aV))):=by
 refine an func78 rfl ntmps78 results78 rfl 0 5 (by simp) (by simp) ?_;cases l with
 |nil =>
  simp only[zW,simprocAttr,];exact⟨⟨_,rfl⟩,by simp,by simp⟩
 |cons x l =>
  simp only[zW,simprocAttr,];have he:(List.map V.d (aV x)::List.map (λx=>List.map V.d x) (List.map aV l))=((x::l).map aV).map (λc=>c.map V.d):=rfl;simp only[afZ]at hl;refine⟨⟨_,rfl⟩,?_,⟨by omega,by simp⟩,?_⟩
  ·rw[he];intro e hm;obtain⟨c,hc,rfl⟩:=List.mem_map.1 hm;obtain⟨y,_,rfl⟩:=List.mem_map.1 hc;rfl
  ·rw[he,eH 7 0 _ _ (0+(l.length+1)) (by simp),be (by omega)];rfl
theorem Mf (c:aK) (n:Int) (hc:c.length<=1000000000):aO prog 103 [.d (cM c),i64 n] (.ag [i64 (cE c n).1,i64 (cE c n).2]):=by
 by_cases c1:n<1
 ·have hs:cE c n=(-1,-1):=by simp [cE,c1]
  rw[hs];refine an func103 rfl ntmps103 results103 rfl 0 19 (by simp) (by simp) ?_;simp only[zX,simprocAttr,i64,iD,cM,aV,c1]
 ·by_cases c2:(c.length:Int)<n
  ·have hs:cE c n=(-1,-1):=by simp [cE,c2]
   rw[hs];refine an func103 rfl ntmps103 results103 rfl 0 19 (by simp) (by simp) ?_;simp only[zX,simprocAttr,i64,iD,cM,aV,c1,c2,gt_iff_lt]
  ·have hs:cE c n=c.getD (n-1).toNat (-1,-1):=by rw[cE,ap (by omega)]
   have w1:IntKind.i64.wrap (n-1)=n-1:=bd _ (by omega);have az:(n-1).toNat<c.length:=by omega
   have hg:c[(n-1).toNat]?=some c[(n-1).toNat]:=afP az;have b1:0<=n-1:=by omega
   have b2:n-1<(c.length:Int):=by omega
   rw[hs,List.getD,hg,ag9];refine an func103 rfl ntmps103 results103 rfl 0 19 (by simp) (by simp) ?_;simp only[zX,simprocAttr,i64,iD,cM,aV,c1,c2,gt_iff_lt,w1,hg,b1,b2]
theorem S0 (c:aK) (n fw to:Int) (hc:c.length<=1000000000):aO prog 81 [.d (cM c),i64 n,i64 fw,i64 to] (.d (cM (ql c n fw to))):=by
 have qX:∀e∈(c.map aV).map (λx=>x.map V.d),e.length=2:=λe he=>by obtain⟨x,hx,rfl⟩:=List.mem_map.1 he;obtain⟨p,_,rfl⟩:=List.mem_map.1 hx;rfl
 refine an func81 rfl ntmps81 results81 rfl 0 783 (by simp) (by simp) ?_;simp only[zX,simprocAttr,i64,cM];refine⟨qX,⟨by omega,by simp⟩,?_⟩;by_cases c1:1<=n
 ·by_cases c2:n<=(c.length:Int)
  ·have w1:IntKind.i64.wrap (n-1)=n-1:=bd _ (by omega);have az:(n-1).toNat<c.length:=by omega
   have b1:0<=n-1:=by omega
   have b2:n-1<(c.length:Int):=by omega
   have hw:ql c n fw to=c.set (n-1).toNat (fw,to):=by rw[ql,be ⟨c1,c2⟩]
   have fx:((c.map aV).map (λx=>x.map V.d)).set (n-1).toNat [i64 fw,i64 to]=((c.set (n-1).toNat (fw,to)).map aV).map (λx=>x.map V.d):=by rw[ahg,ahg];rfl
   have hgc:c[(n-1).toNat]?=some c[(n-1).toNat]:=afP az;rw[hw];simp only[zX,simprocAttr,i64,afX,c1,c2,w1,az,b1,b2,hgc,aV];simp only[i64]at fx;rw[fx,eH 7 0 _ _ _ (by simp),be (by simp)];rfl
  ·have hw:ql c n fw to=c:=by rw[ql,ap (by omega)]
   rw[hw];simp only[zX,simprocAttr,i64,afX,c1,c2];rw[eH 7 0 _ _ _ (by simp),be (by simp)];rfl
 ·have hw:ql c n fw to=c:=by rw[ql,ap (by omega)]
  rw[hw];simp only[zX,simprocAttr,i64,afX,c1];rw[eH 7 0 _ _ _ (by simp),be (by simp)];rfl
theorem SN (n:Int) (hn:n<=1000000):aO prog 51 [i64 n] (.d (cM (List.replicate n.toNat (-1,-1)))):=by
 refine an func51 rfl ntmps51 results51 rfl 0 29 (by simp) (by simp) ?_;simp only[GQ,Di,Dj,simprocAttr,qc,i64];refine au (λm e s=>∃i:Nat,m=n.toNat-i/\i<=n.toNat/\e 0=i64 n/\e 4=i64 i/\Acc [] 2 (e 3) s ((List.replicate i (-1,-1)).map aV))
  ⟨_,_,_,br.refl,0,rfl,by omega,rfl,rfl,.inl ⟨rfl,rfl⟩⟩ ?_
 rintro m e s ⟨i,rfl,hi,h0,h4,iE⟩;rcases agi i n.toNat with az|fI
 ·have aC:(i:Int)<n:=by omega
  simp only[GQ,Di,Dj,simprocAttr,qc,i64,h0,h4,aC];refine iE.append UF rfl (by decide) (by decide) (by intro y hy;obtain⟨z,_,rfl⟩:=List.mem_map.1 hy;rfl) (by simp) (by simp) (by simp only[afN,ahe,afZ,af0];omega) (λv' s' He=>?_);simp only[GQ,Di,Dj,simprocAttr,qc,i64,h0,h4];refine⟨n.toNat-(i+1),_,_,by omega,br.refl,i+1,rfl,az,?_,?_,?_⟩ <;> (try simp only[zU,gj,cQ,dx,eI,reduceIte])
  ·exact h0
  ·rw[bd _ (by omega)];rfl
  ·rw[List.replicate_succ',aha];exact He
 ·have cV:i=n.toNat:=by omega
  subst cV;have aC:¬(n.toNat:Int)<n:=by omega
  simp only[GQ,Di,Dj,simprocAttr,qc,i64,h0,h4,aC];rw[iE.W6 (by simp)];rfl
theorem sY {α:Type} (l:List α) (f:α->D) (n:Nat):((l.map λx=>[V.d (f x)]).all λe=>e.all (ah n))=true:=by rw[af8];intro e he;obtain⟨x,_,rfl⟩:=List.mem_map.1 he;rfl
def dt (g0:Nat) (t:List Int) (most F:Int) (st:bJ):VL.Obj :=
 ⟨g0,true,7,[[.d (al t),i64 most,i64 F,i64 st.steps,bV st.empty,.so 1 st.ends.length 0 st.ends.length,.so 2 st.ends.length 0 st.ak.length]]⟩
def bS (g0:Nat) (t:List Int) (most F:Int) (st:bJ):List VL.Obj :=
 [dt g0 t most F st,⟨st.ends.length,true,1,st.ends.map λx=>[V.d (iD x)]⟩,⟨st.ends.length,true,1,st.ak.map λc=>[V.d (cM c)]⟩]
theorem Tn (g0:Nat) (t:List Int) (most F:Int) (st:bJ) (h0:0<=st.steps) (h1:st.steps<=10000000000000) :
  aq prog 101 [.rf 0 g0 0 0] (bS g0 t most F st) λv s=>v=bV (!(st.step F).empty)/\s=bS g0 t most F (st.step F):=by
 have w1:IntKind.i64.wrap (st.steps+1)=st.steps+1:=bd _ (by omega);unfold bS dt bJ.step;by_cases c:F<st.steps+1
 ·refine an func101 rfl ntmps101 results101 rfl 3 5 (by simp) (by simp) ?_;simp only[zX,simprocAttr,i64,bV,w1];refine ar mix [] [] (by rfl) ?_;simp only[zX,simprocAttr,i64,bV,w1,gt_iff_lt,c,Bool.or_true];simp only[sY,ag3]
 ·refine an func101 rfl ntmps101 results101 rfl 3 5 (by simp) (by simp) ?_;simp only[zX,simprocAttr,i64,bV,w1];refine ar mix [] [] (by rfl) ?_;simp only[zX,simprocAttr,i64,bV,w1,gt_iff_lt,c,b6 c,ag7];simp only[sY,ag3]
end Go.Proofs.Ytfmdmlfhigocaaa
