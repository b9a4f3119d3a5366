/- A part of the proof (G18 G19). -/
import Derived.Test.YtphfjhaffbfpfaaPM6
import Derived.Test.YtphfjhaffbfpfaaPM13
import Derived.Test.YtphfjhaffbfpfaaPM11
import Derived.Test.YtphfjhaffbfpfaaPM12
set_option linter.all false
set_option maxRecDepth 100000
set_option maxHeartbeats 80000000
namespace Go.Proofs.Ytphfjhaffbfpfaa
open Go.VL Go.Proofs.Try
def n5 (aK:Bool) (x:Int):Bool:=decide (0<=x)&&decide (x<=fi aK)
def dW (p:iF) (t:List Int) (fuel:Int):Int :=
 if dR p≠0 then dR p else if 65536<t.length then 4 else if t.all (n5 p.aK)=false then 1 else if fuel<0\/1099511627776<fuel then 1 else 0
theorem lh {α:Type}{P:α->Bool}{l:List α}{i:Nat}{x:α} (hx:l[i]?=some x) (h:(l.take i).all P=true) (hp:P x=true):(l.take (i+1)).all P=true:=by rw[List.take_add_one,hx,List.all_append,h];simp [hp]
theorem all_false {α:Type}{P:α->Bool}{l:List α}{i:Nat}{x:α} (hx:l[i]?=some x) (hp:P x=false):l.all P=false:=by rw[aee];intro h;rw[adE]at h;rw[h x (adw hx)]at hp;cases hp
theorem wK (p:iF) (t:List Int) (fuel:Int) (hf:p.re.eN=true) (hs:p.re.size<=1000000000) (ht:t.length<=1000000000) :
  ba prog 51 [dF p,.d (av t),i64 fuel] (i64 (dW p t fuel)):=by
 have h1:=G3 p hf hs;unfold dW;cases p with
 |mk re ah aK =>
 simp only[dF,Re.ae re,adG,adP,adr,adt,i64,iD,bD,bV]at h1;simp only at *;generalize hv:dR ⟨re,ah,aK⟩=v at *;refine ar func51 rfl ntmps51 results51 rfl 0 975 (by simp) (by simp) ?_;simp only[zX,simprocAttr,i64,dF,Re.ae re,bV,iD,bD];refine az h1 (by simp [ak,ak.go,aq,i64,bV,bP]) (by simp [ak,ak.go,aq,i64,bV,bP]) ?_;simp only[zX,simprocAttr,i64,dF,bV,iD,bD];by_cases c0:v=0
 case neg =>
  rw[ap c0];simp only[zX,simprocAttr,i64,dF,bV,iD,bD,c0]
 subst c0;rw[am (by omega)];by_cases c1:65536<t.length
 ·rw[ap c1];have zr:(65536:Int)<t.length:=by omega
  simp only[zX,simprocAttr,i64,dF,bV,iD,bD,gt_iff_lt,zr]
 rw[am c1];have zr:¬(65536:Int)<t.length:=by omega
 cases aK
 ·simp only[zX,simprocAttr,i64,dF,bV,iD,bD,gt_iff_lt,zr];refine aJ (λn e s=>∃i:Nat,n=t.length-i/\i<=t.length/\e 1=.d (av t)/\e 2=i64 fuel/\e 8=i64 (fi false)/\e 9=i64 i/\(t.take i).all (n5 false)=true)
   ⟨_,_,_,cU.refl,0,rfl,by omega,rfl,rfl,rfl,rfl,by simp⟩ ?_
  rintro n e s ⟨i,rfl,hi,h1,h2,h8,h9,dg⟩;rcases adV i t.length with aH|iP
  ·obtain⟨x,hx⟩:∃x,t[i]?=some x:=⟨_,adn aH⟩
   have bo:(i:Int)<t.length:=by omega
   simp only[zX,simprocAttr,i64,h1,h2,h8,h9,bo,av,hx,iD];by_cases d1:x<0
   ·simp only[zX,simprocAttr,d1];rw[ap (all_false hx (by rw[n5,adl (by omega)];rfl))]
   ·by_cases d2:fi false<x
    ·simp only[zX,simprocAttr,d1,d2,gt_iff_lt,i64,h1,h2,h8,h9,bo,aH,av,hx,iD];rw[ap (all_false hx (by rw[n5,adl (by omega:¬x<=fi false),Bool.and_false]))]
    ·simp only[zX,simprocAttr,d1,d2,gt_iff_lt,i64,h1,h2,h8,h9,bo,aH,av,hx,iD];refine⟨t.length-(i+1),_,_,by omega,cU.refl,i+1,rfl,aH,?_,?_,?_,?_,?_⟩ <;> (try simp only[zU,Nat.reduceBEq,Nat.reduceShiftRight,Nat.reduceMod,Nat.reduceEqDiff,reduceIte])
     ·exact h1
     ·exact h2
     ·exact h8
     ·rw[bM _ (by omega)];rfl
     ·exact lh hx dg (by rw[n5,adu (by omega),adu (by omega)];rfl)
  ·have fy:i=t.length:=by omega
   subst fy;have bo:¬(t.length:Int)<t.length:=by omega
   rw[adZ]at dg;rw[dg,am (by decide)];simp only[zX,simprocAttr,i64,h1,h2,h9,bo,av];by_cases d1:fuel<0
   ·simp only[zX,simprocAttr,d1]
   ·by_cases d2:1099511627776<fuel
    ·simp only[zX,simprocAttr,d1,d2,gt_iff_lt,i64,h1,h2]
    ·simp only[zX,simprocAttr,d1,d2,gt_iff_lt,i64,h1,h2]
 ·simp only[zX,simprocAttr,i64,dF,bV,iD,bD,gt_iff_lt,zr];refine aJ (λn e s=>∃i:Nat,n=t.length-i/\i<=t.length/\e 1=.d (av t)/\e 2=i64 fuel/\e 8=i64 (fi true)/\e 9=i64 i/\(t.take i).all (n5 true)=true)
   ⟨_,_,_,cU.refl,0,rfl,by omega,rfl,rfl,rfl,rfl,by simp⟩ ?_
  rintro n e s ⟨i,rfl,hi,h1,h2,h8,h9,dg⟩;rcases adV i t.length with aH|iP
  ·obtain⟨x,hx⟩:∃x,t[i]?=some x:=⟨_,adn aH⟩
   have bo:(i:Int)<t.length:=by omega
   simp only[zX,simprocAttr,i64,h1,h2,h8,h9,bo,av,hx,iD];by_cases d1:x<0
   ·simp only[zX,simprocAttr,d1];rw[ap (all_false hx (by rw[n5,adl (by omega)];rfl))]
   ·by_cases d2:fi true<x
    ·simp only[zX,simprocAttr,d1,d2,gt_iff_lt,i64,h1,h2,h8,h9,bo,aH,av,hx,iD];rw[ap (all_false hx (by rw[n5,adl (by omega:¬x<=fi true),Bool.and_false]))]
    ·simp only[zX,simprocAttr,d1,d2,gt_iff_lt,i64,h1,h2,h8,h9,bo,aH,av,hx,iD];refine⟨t.length-(i+1),_,_,by omega,cU.refl,i+1,rfl,aH,?_,?_,?_,?_,?_⟩ <;> (try simp only[zU,Nat.reduceBEq,Nat.reduceShiftRight,Nat.reduceMod,Nat.reduceEqDiff,reduceIte])
     ·exact h1
     ·exact h2
     ·exact h8
     ·rw[bM _ (by omega)];rfl
     ·exact lh hx dg (by rw[n5,adu (by omega),adu (by omega)];rfl)
  ·have fy:i=t.length:=by omega
   subst fy;have bo:¬(t.length:Int)<t.length:=by omega
   rw[adZ]at dg;rw[dg,am (by decide)];simp only[zX,simprocAttr,i64,h1,h2,h9,bo,av];by_cases d1:fuel<0
   ·simp only[zX,simprocAttr,d1]
   ·by_cases d2:1099511627776<fuel
    ·simp only[zX,simprocAttr,d1,d2,gt_iff_lt,i64,h1,h2]
    ·simp only[zX,simprocAttr,d1,d2,gt_iff_lt,i64,h1,h2]
def Dm (at_:Int) (x:Int×aC):List D:=[iD at_,iD x.1,bQ x.2]
def lD (p:iF):aC:=List.replicate p.ah.toNat (-1,-1)
def Q4 (at_:Int) (x:bd):V:=if x.empty=true then .tu [.d (.sl []),i64 0,i64 11] else .tu [.d (.sl ((x.ends.zip x.ah).map (Dm at_))),i64 x.steps,i64 0]
def VV (e:Int):V:=.tu [.d (.sl []),i64 0,i64 e]
theorem RL (p:iF) (t:List Int) (at_ ai fuel:Int) (hf:p.re.eN=true) (hs:p.re.size<=1000000000) (ht:t.length<=1000000000) (hv:dW p t fuel≠0) :
  ba prog 29 [dF p,.d (av t),i64 at_,i64 ai,i64 fuel] (VV (dW p t fuel)):=by
 have h1:=wK p t fuel hf hs ht;cases p with
 |mk re ah aK =>
 simp only[dF,Re.ae re,adG,adP,adr,adt,i64,iD,bD,bV]at h1;generalize dW ⟨re,ah,aK⟩ t fuel=v at *;refine ar func29 rfl ntmps29 results29 rfl 0 130111 (by simp) (by simp) ?_;simp only[zX,simprocAttr,i64,dF,Re.ae re,bV,iD,bD];refine az h1 (by simp [ak,ak.go,aq,i64,bV,bP]) (by simp [ak,ak.go,aq,i64,bV,bP]) ?_;simp only[zX,simprocAttr,i64,dF,bV,iD,bD,hv];rfl
theorem Ma (p:iF) (t:List Int) (at_ ai fuel:Int) (hf:p.re.eN=true) (hs:p.re.size<=1000000000) (ht:t.length<=1000000000) (hv:dW p t fuel=0) (ha:at_<0\/t.length<at_) :
  ba prog 29 [dF p,.d (av t),i64 at_,i64 ai,i64 fuel] (VV 5):=by
 have h1:=wK p t fuel hf hs ht;rw[hv]at h1;cases p with
 |mk re ah aK =>
 simp only[dF,Re.ae re,adG,adP,adr,adt,i64,iD,bD,bV]at h1;refine ar func29 rfl ntmps29 results29 rfl 0 130111 (by simp) (by simp) ?_;simp only[zX,simprocAttr,i64,dF,Re.ae re,bV,iD,bD];refine az h1 (by simp [ak,ak.go,aq,i64,bV,bP]) (by simp [ak,ak.go,aq,i64,bV,bP]) ?_;simp only[zX,simprocAttr,i64,dF,bV,iD,bD];by_cases c1:at_<0
 ·simp only[zX,simprocAttr,i64,dF,bV,iD,bD,c1];rfl
 ·have c2:(t.length:Int)<at_:=ha.resolve_left c1;simp only[zX,simprocAttr,i64,dF,bV,iD,bD,c1,c2,av,gt_iff_lt,ado];rfl
def X7 (re:Re) (ah:Int) (aK:Bool) (t:List Int) (ai fuel xs:Int) (gF:List Int) (oU:List aC):List VL.Obj :=
 [⟨0,true,10,[[.d (.sc (.int .i64 re.op)),.d (.sl (re.set.map aN)),.d (.sl (re.kids.map Re.cells)),.d (.sc (.int .i64 re.mn)),.d (.sc (.int .i64 re.mx)),.d (.sc (.int .i64 re.mode)),.d (.sc (.int .i64 re.n)),.d (.sc (.bool re.neg)),.d (.sc (.int .i64 ah)),.d (.sc (.bool aK))]]⟩,
  ⟨0,true,7,[[.d (av t),.d (.sc (.int .i64 ai)),.d (.sc (.int .i64 fuel)),.d (.sc (.int .i64 xs)),.d (.sc (.bool false)),.so 3 gF.length 0 gF.length,.so 4 gF.length 0 oU.length]]⟩,
  ⟨1,false,12,[[.d (.sc (.int .i64 0)),.d (.sc (.int .i64 re.op)),.d (.sl (re.set.map aN)),.d (.sl (re.kids.map Re.cells)),.d (.sc (.int .i64 re.mn)),.d (.sc (.int .i64 re.mx)),.d (.sc (.int .i64 re.mode)),.d (.sc (.int .i64 re.n)),.d (.sc (.bool re.neg)),.d (.sc (.int .i64 0)),.d (.sc (.int .i64 0)),.d (.sc (.pointer none))]]⟩,
  ⟨gF.length,true,1,gF.map λx=>[.d (.sc (.int .i64 x))]⟩,⟨gF.length,true,1,oU.map λc=>[.d (bQ c)]⟩]
theorem Qj (p:iF) (t:List Int) (at_ ai fuel:Int) (hf:p.re.eN=true) (hs:p.re.size<=1000000000) (ht:t.length<=1000000) (hc:p.ah<=1000000) (hv:dW p t fuel=0) (a0:0<=at_) (a1:at_<=t.length)
  {n:Nat}{b:Bool}{x:bd} (hx:dO t fuel n ai (.run (.mk 0 p.re 0 0 .nil) at_ (lD p)) ⟨0,false,[],[]⟩=some (b,x)) (hl:x.ends.length<=2000000000000) (hlc:x.ah.length=x.ends.length) :
  ba prog 29 [dF p,.d (av t),i64 at_,i64 ai,i64 fuel] (Q4 at_ x):=by
 have h1:=wK p t fuel hf hs (by omega);have hb:=Qm p.ah hc;have ED:Goal.nil.d=.sc (.pointer none):=rfl;rw[hv]at h1;have dJ:=Kn (F:=fuel) ht n 0 ai _ _ _ _ hx;unfold cc dE fg eH at dJ;unfold lD at dJ;cases p with
 |mk re ah aK =>
 simp only[Goal.bu,ED,i64,bV,iD,bD]at dJ;simp only[i64]at hb;simp only[dF,Re.ae re,adG,adP,adr,adt,i64,iD,bD,bV]at h1;clear hx hv;have c1:¬at_<0:=by omega
 have c2:¬(t.length:Int)<at_:=by omega
 refine ar func29 rfl ntmps29 results29 rfl 0 130111 (by simp) (by simp) ?_;simp only[zX,simprocAttr,i64,dF,Re.ae re,bV,iD,bD];refine az h1 (by simp [ak,ak.go,aq,i64,bV,bP]) (by simp [ak,ak.go,aq,i64,bV,bP]) ?_;simp only[zX,simprocAttr,i64,dF,bV,iD,bD,c1,c2,av,gt_iff_lt,ado];refine aS ca.bh ?_;refine ao mix [9] [(4,[2],[2])] (by rfl) ?_;simp only[zX,simprocAttr,i64,bV,hole];refine bY hb rfl rfl ?_;simp only[zX,simprocAttr,i64,bV,iD,bD];refine bj (r:=.d (.sc (.bool b))) (s1:=[⟨0,true,10,[[.d (.sc (.int .i64 re.op)),.d (.sl (re.set.map aN)),.d (.sl (re.kids.map Re.cells)),.d (.sc (.int .i64 re.mn)),.d (.sc (.int .i64 re.mx)),.d (.sc (.int .i64 re.mode)),.d (.sc (.int .i64 re.n)),.d (.sc (.bool re.neg)),.d (.sc (.int .i64 ah)),.d (.sc (.bool aK))]]⟩,
  ⟨0,true,7,[[.d (av t),.d (.sc (.int .i64 ai)),.d (.sc (.int .i64 fuel)),.d (.sc (.int .i64 x.steps)),.d (.sc (.bool x.empty)),.so 3 x.ends.length 0 x.ends.length,.so 4 x.ends.length 0 x.ah.length]]⟩,
  ⟨1,false,12,[[.d (.sc (.int .i64 0)),.d (.sc (.int .i64 re.op)),.d (.sl (re.set.map aN)),.d (.sl (re.kids.map Re.cells)),.d (.sc (.int .i64 re.mn)),.d (.sc (.int .i64 re.mx)),.d (.sc (.int .i64 re.mode)),.d (.sc (.int .i64 re.n)),.d (.sc (.bool re.neg)),.d (.sc (.int .i64 0)),.d (.sc (.int .i64 0)),.d (.sc (.pointer none))]]⟩,
  ⟨x.ends.length,true,1,x.ends.map λx=>[.d (.sc (.int .i64 x))]⟩,⟨x.ends.length,true,1,x.ah.map λc=>[.d (bQ c)]⟩]) ?_ ?_
 ·refine aY (cargs:=[.rf 1 0 0 0,.d (.el [.sc (.int .i64 0),.sc (.int .i64 re.op),.sl (re.set.map aN),.sl (re.kids.map Re.cells),.sc (.int .i64 re.mn),.sc (.int .i64 re.mx),.sc (.int .i64 re.mode),.sc (.int .i64 re.n),.sc (.bool re.neg),.sc (.int .i64 0),.sc (.int .i64 0),.sc (.pointer none)]),.d (.sc (.int .i64 at_)),.d (bQ (List.replicate ah.toNat (-1,-1)))]) [2] (by simp [bg,bT,bf.go,bf,cE]) ?_;simp only[bg,bT,adU,List.getElem?_cons_succ,ad6,ad0];refine iL (pre:=[.d (av t),.d (.sc (.int .i64 ai)),.d (.sc (.int .i64 fuel)),.d (.sc (.int .i64 0)),.d (.sc (.bool false))]) (post:=[.fu []]) 1 1 rfl rfl rfl ?_;simp only[ad6,ad0,adr,adt,adA,adF,Nat.reduceAdd];refine iL (pre:=[.d (av t),.d (.sc (.int .i64 ai)),.d (.sc (.int .i64 fuel)),.d (.sc (.int .i64 0)),.d (.sc (.bool false)),.so 3 0 0 0]) (post:=[]) 1 1 rfl rfl rfl ?_;simp only[ad6,ad0,adr,adt,adA,adF,Nat.reduceAdd];refine gx [1,3,4] dJ (by decide) rfl rfl rfl rfl ?_ rfl ?_
  ·rfl
  simp only[adG,adP,uv,aZ,ad0,ad6,bp,aX,aX.go,List.getD_cons_zero,List.getD_cons_succ,List.map_map,and_self,true_and];rfl
 ·clear dJ;obtain⟨xs,xe,gF,oU⟩:=x;simp only at hl hlc;cases xe with
  |true =>
   simp only[zX,simprocAttr,i64,bV,iD,bD,Q4]
  |false =>
   simp only[Ee,A1,Bm,simprocAttr,oY,i64,bV,iD,bD,Q4,adq,if_false];refine aJ (λn e s=>∃i:Nat,n=gF.length-i/\i<=gF.length/\e 2=i64 at_/\e 14=.rf 1 0 0 0/\e 16=i64 i/\Acc (X7 re ah aK t ai fuel xs gF oU) 3 (e 15) s (((gF.zip oU).take i).map (Dm at_)))
    ⟨_,_,_,cU.refl,0,rfl,by omega,rfl,rfl,rfl,.inl ⟨rfl,rfl⟩⟩ ?_
   rintro n e s ⟨i,rfl,hi,h2,e7,zG,lr⟩;have Sy:=lr.get (id:=1) rfl;have XX:=lr.get (id:=3) rfl;have Yc:=lr.get (id:=4) rfl;have ZE:(0:Int)<=i:=by omega
   rcases adV i gF.length with aH|iP
   ·obtain⟨y,hy⟩:∃y,gF[i]?=some y:=⟨_,adn aH⟩
    obtain⟨z,hz⟩:∃z,oU[i]?=some z:=⟨_,adn (by omega)⟩
    have hyz:(gF.zip oU)[i]?=some (y,z):=by rw[List.getElem?_zip_eq_some];exact⟨hy,hz⟩
    have bo:(i:Int)<gF.length:=by omega
    have Yl:i<oU.length:=by omega
    simp only[Ee,A1,Bm,simprocAttr,oY,i64,iD,bD,bV,h2,e7,zG,Sy,XX,Yc,bo,aH];refine ao mix [18] [] (by rfl) ?_;simp only[Ee,A1,Bm,simprocAttr,oY,i64,iD,bD,bV,h2,e7,zG,Sy,XX,Yc,bo,aH,Yl,hy,hz,adI];refine lr.append TG rfl (by decide) (by decide) (by intro y hy;obtain⟨z,_,rfl⟩:=List.mem_map.1 hy;rfl) (by simp) (by simp) (by simp only[ado,ad5,adA,adF];omega) (λv' s' Fp=>?_);simp only[Ee,A1,Bm,simprocAttr,oY,i64,iD,bD,bV,h2,e7,zG];refine⟨gF.length-(i+1),_,_,by omega,cU.refl,i+1,rfl,aH,?_,?_,?_,?_⟩ <;> (try simp only[zU,Nat.reduceBEq,Nat.reduceShiftRight,Nat.reduceMod,Nat.reduceEqDiff,reduceIte])
    ·exact h2
    ·exact e7
    ·rw[bM _ (by omega)];rfl
    ·rw[cy hyz];simpa [Dm,iD]using Fp
   ·have fy:i=gF.length:=by omega
    subst fy;have bo:¬(gF.length:Int)<gF.length:=by omega
    have Uu:(gF.zip oU).length=gF.length:=by simp [hlc]
    have tG:(gF.zip oU).take gF.length=gF.zip oU:=by rw[<- Uu,adZ]
    rw[tG]at lr;simp only[Ee,A1,Bm,simprocAttr,oY,i64,iD,bD,bV,h2,e7,zG,Sy,XX,Yc,bo];refine ao mix [] [] (by rfl) ?_;simp only[Ee,A1,Bm,simprocAttr,oY,i64,iD,bD,bV,h2,e7,zG,Sy];rw[lr.XG (Nat.zero_le _)];rfl
variable{t:List Int}{ai:Int}{top:Int}{ah:Int}{fuel:Int}{p:iF}
open Classical in
noncomputable def Y4 (t:List Int) (F ai:Int) (task:Task) (st:bd):Bool×bd:=if h:∃n r,dO t F n ai task st=some r then (Classical.choose_spec h).choose else (false,st)
theorem uG{F:Int}{task:Task}{st:bd}{n:Nat}{r:Bool×bd} (h:dO t F n ai task st=some r):Y4 t F ai task st=r:=by unfold Y4;rw[dif_pos ⟨n,r,h⟩];exact RM (Classical.choose_spec (Classical.choose_spec (⟨n,r,h⟩:∃n r,dO t F n ai task st=some r))) h
theorem xk {re:Re} (h:b9 re ah top=true) (hk:re.kids.length<=1000000000):ja re=true:=by
 obtain⟨h1,h2,h3,h4,h5⟩:=eT.1 h;have cC:re.set.length<=64:=by
  split at h2
  ·simp only[gK,adD,adC]at h2;exact h2.1
  ·omega
 refine adu ⟨λho hn=>?_,λho=>?_,by omega,hk⟩
 ·have:=h1.2.2.1;rw[hn]at this;simp only[adF,adK]at this;rcases ho with o|o|o|o|o <;> rw[o]at this <;> simp [cR]at this
 ·have:=h1.2.2.1;rw[ho]at this;simp [cR]at this;omega
theorem E9 (re:Re) (h:re.whole ah top=true) (hs:re.size<=1000000):re.every ja=true:=by revert h hs;refine Re.ind (Q:=λre=>re.whole ah top=true->re.size<=1000000->re.every ja=true) (λre ih h hs=>?_) re;obtain⟨a1,a2⟩:=(Re.aQ re).1 h;have:=Re.ot re.kids;have:=Re.size_eq re;exact(Re.aQ re).2 ⟨xk a1 (by omega),λk hk=>ih k hk (a2 k hk) (by have:=Re.dr hk;omega)⟩
noncomputable def cO (p:iF) (t:List Int) (at_ ai fuel:Int):Bool×bd:=Y4 t fuel ai (.run (.mk 0 p.re 0 0 .nil) at_ (lD p)) ⟨0,false,[],[]⟩
theorem im (h:dW p t fuel=0):dR p=0/\t.length<=65536/\t.all (n5 p.aK)=true/\0<=fuel/\fuel<=1099511627776:=by
 unfold dW at h;split at h
 ·omega
 ·split at h
  ·omega
  ·split at h
   ·omega
   ·split at h
    ·omega
    ·refine⟨by omega,by omega,by simp_all,by omega,by omega⟩
theorem eL (h:dR p=0):p.re.size<=256/\p.re.depth<=24/\0<=p.ah/\p.ah<=9/\p.re.whole p.ah (fi p.aK)=true:=by
 unfold dR at h;split at h
 ·omega
 ·split at h
  ·omega
  ·rename_i h1 h2;refine⟨by omega,by omega,by omega,by omega,?_⟩;cases hw:p.re.whole p.ah (fi p.aK) with
   |true=>rfl
   |false=>exact absurd (.inr (.inr hw)) h2
theorem gE{at_:Int} (hv:dW p t fuel=0) (a0:0<=at_) (a1:at_<=t.length) :
  ∃n,dO t fuel n ai (.run (.mk 0 p.re 0 0 .nil) at_ (lD p)) ⟨0,false,[],[]⟩=some (cO p t at_ ai fuel)/\eo t fuel 0 at_ (lD p).length ⟨0,false,[],[]⟩ (cO p t at_ ai fuel).1 (cO p t at_ ai fuel).2:=by
 obtain⟨h1,h2,h3,h4,h5⟩:=im hv;obtain⟨k1,k2,k3,k4,k5⟩:=eL h1;have cZ:(lD p).length<=9:=by unfold lD;rw[List.length_replicate];omega
 obtain⟨n,b,s',e1,e2,_⟩:=O8 (t:=t) (F:=fuel) (by omega) _ _ ai (.run (.mk 0 p.re 0 0 .nil) at_ (lD p)) ⟨0,false,[],[]⟩ (adB _) (adB _)
  ⟨by omega,E9 _ k5 (by omega),by intro h;omega,by intro h;omega,by intro h;omega,by intro h;omega,trivial⟩
  ⟨a0,a1,⟨by show (lD p).length<=_;omega,λq hq=>.inl (List.eq_of_mem_replicate hq)⟩,rfl,ady _,h4,by simp [Task.gH,ey],rfl⟩
 have hx:cO p t at_ ai fuel=(b,s'):=uG e1;rw[hx];exact⟨n,e1,e2⟩
noncomputable def fv (p:iF) (t:List Int) (at_ ai fuel:Int):Int:=if dW p t fuel≠0 then dW p t fuel else if at_<0\/(t.length:Int)<at_ then 5 else if (cO p t at_ ai fuel).2.empty=true then 11 else 0
noncomputable def allM (p:iF) (t:List Int) (at_ ai fuel:Int):List (Int×aC):=if fv p t at_ ai fuel=0 then (cO p t at_ ai fuel).2.ends.zip (cO p t at_ ai fuel).2.ah else []
noncomputable def jy (p:iF) (t:List Int) (at_ ai fuel:Int):Int:=if fv p t at_ ai fuel=0 then (cO p t at_ ai fuel).2.steps else 0
theorem LI (p:iF) (t:List Int) (at_ ai fuel:Int) (hf:p.re.eN=true) (hs:p.re.size<=1000000000) (ht:t.length<=1000000000) :
  ba prog 29 [dF p,.d (av t),i64 at_,i64 ai,i64 fuel] (.tu [.d (.sl ((allM p t at_ ai fuel).map (Dm at_))),i64 (jy p t at_ ai fuel),i64 (fv p t at_ ai fuel)]):=by
 by_cases hv:dW p t fuel=0
 case neg =>
  have he:fv p t at_ ai fuel=dW p t fuel:=by rw[fv,ap hv]
  rw[allM,jy,he,am hv,am hv];exact RL p t at_ ai fuel hf hs ht hv
 by_cases ha:at_<0\/(t.length:Int)<at_
 ·have he:fv p t at_ ai fuel=5:=by rw[fv,am (by omega),ap ha]
  rw[allM,jy,he,am (by omega),am (by omega)];exact Ma p t at_ ai fuel hf hs ht hv ha
 ·obtain⟨n,e1,e2⟩:=gE (at_:=at_) (ai:=ai) hv (by omega) (by omega);obtain⟨h1,h2,_,h4,h5⟩:=im hv;obtain⟨_,_,_,k4,_⟩:=eL h1;have he:fv p t at_ ai fuel=if (cO p t at_ ai fuel).2.empty=true then 11 else 0:=by rw[fv,am (by omega),am ha]
  rw[allM,jy,he];generalize cO p t at_ ai fuel=X at *;obtain⟨b,x⟩:=X;simp only at e2 ⊢;obtain⟨new,mR,m1,m2,m3,m4,_⟩:=e2.more;have eC:=e2.s1;simp only[adt]at m1 m2;have hlen:x.ends.length<=2000000000000:=by rw[m1];simp only at m4;omega
  have r:=Qj p t at_ ai fuel hf hs (by omega) (by omega) hv (by omega) (by omega) e1 hlen (by rw[m1,m2,m3]);unfold Q4 at r;split at r
  ·rename_i hh;rw[ap hh,am (by decide),am (by decide)];exact r
  ·rename_i hh;rw[am hh,ap rfl,ap rfl];exact r
end Go.Proofs.Ytphfjhaffbfpfaa
