/- A part of the proof (G19 F51 F52 F61 G20 G21 G22). -/
import Derived.Test.YtjjfioalgbecmaaGreatOQ24
set_option linter.unusedSimpArgs false
set_option linter.unusedVariables false
open Nat renaming reduceShiftRight → jN, reduceMod → oN, reduceEqDiff → oV, reduceAdd → oW, reduceBEq → pZ
open Int renaming reduceNatCast' → D7
set_option maxRecDepth 100000
set_option maxHeartbeats 80000000
namespace Go.Proofs.YtjjfioalgbecmaaGreat
open Go.VL Go.Proofs.Tryz
variable{most:Int}{t:List Int}{ai:Int}{top:Int}{p:iM}{fuel:Int}
def Is (at_:Int) (x:Int×aH):List D:=[iD at_,iD x.1,cQ x.2]
def qj (p:iM):aH:=List.replicate p.ai.toNat (-1,-1)
def VO (at_:Int) (x:bO):V:=if x.empty=true then .tu [.d (.sl []),i64 0,i64 11] else .tu [.d (.sl ((x.ends.zip x.ai).map (Is at_))),i64 x.steps,i64 0]
def abd (e:Int):V:=.tu [.d (.sl []),i64 0,i64 e]
theorem VY (p:iM) (t:List Int) (at_ most fuel:Int) (hf:p.re.dx=true) (hs:p.re.size<=1000000000) (ht:t.length<=1000000000) (hv:ib p t fuel≠0) :
  aM prog 48 [bI p,.d (ao t),i64 at_,i64 most,i64 fuel] (abd (ib p t fuel)):=by
 have h1:=z6 p t fuel hf hs ht;cases p with
 |mk re ai aB =>
 simp only[bI,Re.ah re,ajR,ajV,ajN,ajO,i64,iD,bD,bV]at h1;generalize ib ⟨re,ai,aB⟩ t fuel=v at *;refine bo func48 ntmps48 results48 0 130111 ?_;simp only[zI,simprocAttr,bI,Re.ah re,bV,iD,bD];refine dY h1 ?_;simp only[zI,simprocAttr,bI,bV,iD,bD,hv];rfl
theorem P6 (p:iM) (t:List Int) (at_ most fuel:Int) (hf:p.re.dx=true) (hs:p.re.size<=1000000000) (ht:t.length<=1000000000) (hv:ib p t fuel=0) (ha:at_<0\/t.length<at_) :
  aM prog 48 [bI p,.d (ao t),i64 at_,i64 most,i64 fuel] (abd 5):=by
 have h1:=z6 p t fuel hf hs ht;rw[hv]at h1;cases p with
 |mk re ai aB =>
 simp only[bI,Re.ah re,ajR,ajV,ajN,ajO,i64,iD,bD,bV]at h1;refine bo func48 ntmps48 results48 0 130111 ?_;simp only[zI,simprocAttr,bI,Re.ah re,bV,iD,bD];refine dY h1 ?_;simp only[zI,simprocAttr,bI,bV,iD,bD];by_cases c1:at_<0
 ·simp only[zI,simprocAttr,bI,bV,iD,bD,c1];rfl
 ·have c2:(t.length:Int)<at_:=ha.resolve_left c1;simp only[zI,simprocAttr,bI,bV,iD,bD,c1,c2,ao,gt_iff_lt,ajM];rfl
def adP (re:Re) (ai:Int) (aB:Bool) (t:List Int) (most fuel xs:Int) (iy:List Int) (qN:List aH):List VL.Obj :=
 [⟨0,true,10,[[.d (.sc (.int .i64 re.op)),.d (.sl (re.set.map aT)),.d (.sl (re.kids.map Re.cells)),.d (.sc (.int .i64 re.mn)),.d (.sc (.int .i64 re.mx)),.d (.sc (.int .i64 re.mode)),.d (.sc (.int .i64 re.n)),.d (.sc (.bool re.neg)),.d (.sc (.int .i64 ai)),.d (.sc (.bool aB))]]⟩,
  ⟨0,true,7,[[.d (ao t),.d (.sc (.int .i64 most)),.d (.sc (.int .i64 fuel)),.d (.sc (.int .i64 xs)),.d (.sc (.bool false)),.so 3 iy.length 0 iy.length,.so 4 iy.length 0 qN.length]]⟩,
  ⟨1,false,12,[[.d (.sc (.int .i64 0)),.d (.sc (.int .i64 re.op)),.d (.sl (re.set.map aT)),.d (.sl (re.kids.map Re.cells)),.d (.sc (.int .i64 re.mn)),.d (.sc (.int .i64 re.mx)),.d (.sc (.int .i64 re.mode)),.d (.sc (.int .i64 re.n)),.d (.sc (.bool re.neg)),.d (.sc (.int .i64 0)),.d (.sc (.int .i64 0)),.d (.sc (.pointer none))]]⟩,
  ⟨iy.length,true,1,iy.map λx=>[.d (.sc (.int .i64 x))]⟩,⟨iy.length,true,1,qN.map λc=>[.d (cQ c)]⟩]
theorem Wn (p:iM) (t:List Int) (at_ most fuel:Int) (hf:p.re.dx=true) (hs:p.re.size<=1000000000) (ht:t.length<=1000000) (hc:p.ai<=1000000) (hv:ib p t fuel=0) (a0:0<=at_) (a1:at_<=t.length)
  {n:Nat}{b:Bool}{x:bO} (hx:iw t fuel n most (.run (.mk 0 p.re 0 0 .nil) at_ (qj p)) ⟨0,false,[],[]⟩=some (b,x)) (hl:x.ends.length<=2000000000000) (hlc:x.ai.length=x.ends.length) :
  aM prog 48 [bI p,.d (ao t),i64 at_,i64 most,i64 fuel] (VO at_ x):=by
 have h1:=z6 p t fuel hf hs ae;have hb:=V1 p.ai hc;have By:Goal.nil.d=.sc (.pointer none):=rfl;rw[hv]at h1;have dZ:=OP (F:=fuel) ht n 0 most _ _ _ _ hx;unfold bY dB fv eP at dZ;unfold qj at dZ;cases p with
 |mk re ai aB =>
 simp only[Goal.b9,By,i64,bV,iD,bD]at dZ;simp only[i64]at hb;simp only[bI,Re.ah re,ajR,ajV,ajN,ajO,i64,iD,bD,bV]at h1;clear hx hv;have c1:¬at_<0:=ae;have c2:¬(t.length:Int)<at_:=ae;refine bo func48 ntmps48 results48 0 130111 ?_;simp only[zI,simprocAttr,bI,Re.ah re,bV,iD,bD];refine dY h1 ?_;simp only[zI,simprocAttr,bI,bV,iD,bD,c1,c2,ao,gt_iff_lt,ajM];refine aX bW.bn ?_;refine cu mix [9] [(4,[2],[2])] ?_;simp only[zI,simprocAttr,bV,hole];refine Fk hb ?_;simp only[zQ,simprocAttr];refine ct (r:=.d (.sc (.bool b))) (s1:=[⟨0,true,10,[[.d (.sc (.int .i64 re.op)),.d (.sl (re.set.map aT)),.d (.sl (re.kids.map Re.cells)),.d (.sc (.int .i64 re.mn)),.d (.sc (.int .i64 re.mx)),.d (.sc (.int .i64 re.mode)),.d (.sc (.int .i64 re.n)),.d (.sc (.bool re.neg)),.d (.sc (.int .i64 ai)),.d (.sc (.bool aB))]]⟩,
  ⟨0,true,7,[[.d (ao t),.d (.sc (.int .i64 most)),.d (.sc (.int .i64 fuel)),.d (.sc (.int .i64 x.steps)),.d (.sc (.bool x.empty)),.so 3 x.ends.length 0 x.ends.length,.so 4 x.ends.length 0 x.ai.length]]⟩,
  ⟨1,false,12,[[.d (.sc (.int .i64 0)),.d (.sc (.int .i64 re.op)),.d (.sl (re.set.map aT)),.d (.sl (re.kids.map Re.cells)),.d (.sc (.int .i64 re.mn)),.d (.sc (.int .i64 re.mx)),.d (.sc (.int .i64 re.mode)),.d (.sc (.int .i64 re.n)),.d (.sc (.bool re.neg)),.d (.sc (.int .i64 0)),.d (.sc (.int .i64 0)),.d (.sc (.pointer none))]]⟩,
  ⟨x.ends.length,true,1,x.ends.map λx=>[.d (.sc (.int .i64 x))]⟩,⟨x.ends.length,true,1,x.ai.map λc=>[.d (cQ c)]⟩]) ?_ ?_
 ·refine bE (cargs:=[.rf 1 0 0 0,.d (.el [.sc (.int .i64 0),.sc (.int .i64 re.op),.sl (re.set.map aT),.sl (re.kids.map Re.cells),.sc (.int .i64 re.mn),.sc (.int .i64 re.mx),.sc (.int .i64 re.mode),.sc (.int .i64 re.n),.sc (.bool re.neg),.sc (.int .i64 0),.sc (.int .i64 0),.sc (.pointer none)]),.d (.sc (.int .i64 at_)),.d (cQ (List.replicate ai.toNat (-1,-1)))]) [2] (by simp [br,ck,bc.go,bc,cT]) ?_;simp only[br,ck,List.getElem?_cons_zero,List.getElem?_cons_succ,akf,aj9];refine fX (pre:=[.d (ao t),.d (.sc (.int .i64 most)),.d (.sc (.int .i64 fuel)),.d (.sc (.int .i64 0)),.d (.sc (.bool false))]) (post:=[.fu []]) 1 1 rfl rfl rfl ?_;simp only[akf,aj9,ajN,ajO,ajW,ajX,oW];refine fX (pre:=[.d (ao t),.d (.sc (.int .i64 most)),.d (.sc (.int .i64 fuel)),.d (.sc (.int .i64 0)),.d (.sc (.bool false)),.so 3 0 0 0]) (post:=[]) 1 1 rfl rfl rfl ?_;simp only[akf,aj9,ajN,ajO,ajW,ajX,oW];refine cV [1,3,4] dZ aU rfl rfl rfl rfl ?_ rfl ?_
  ·rfl
  simp only[ajR,ajV,Hx,aJ,aj9,akf,aN,aE,aE.go,akM,akN,akq,and_self,true_and];rfl
 ·clear dZ;obtain⟨xs,xe,iy,qN⟩:=x;simp only at hl hlc;cases xe with
  |true =>
   simp only[zQ,simprocAttr,VO]
  |false =>
   simp only[IM,EY,E3,simprocAttr,qt,i64,bV,iD,bD,VO,ajY,if_false];refine aw (λn e s=>∃i:Nat,n=iy.length-i/\i<=iy.length/\e 2=i64 at_/\e 14=.rf 1 0 0 0/\e 16=i64 i/\Acc (adP re ai aB t most fuel xs iy qN) 3 (e 15) s (((iy.zip qN).take i).map (Is at_)))
    ⟨_,_,_,bA.refl,0,rfl,ae,rfl,rfl,rfl,.inl ⟨rfl,rfl⟩⟩ ?_
   rintro n e s ⟨i,rfl,hi,h2,dA,ka,oI⟩;have Xj:=oI.get (id:=1) rfl;have hB3:=oI.get (id:=3) rfl;have hB4:=oI.get (id:=4) rfl;have agX:(0:Int)<=i:=ae;rcases akd i iy.length with az|gx
   ·obtain⟨y,hy⟩:∃y,iy[i]?=some y:=cc az;obtain⟨z,hz⟩:∃z,qN[i]?=some z:=cc;have hyz:(iy.zip qN)[i]?=some (y,z):=by rw[List.getElem?_zip_eq_some];exact⟨hy,hz⟩
    have aA:(i:Int)<iy.length:=ae;have aek:i<qN.length:=ae;simp only[IM,EY,E3,simprocAttr,qt,i64,iD,bD,bV,h2,dA,ka,Xj,hB3,hB4,aA,az];refine cu mix [18] [] ?_;simp only[IM,EY,E3,simprocAttr,qt,i64,iD,bD,bV,h2,dA,ka,Xj,hB3,hB4,aA,az,aek,hy,hz,ajT];refine oI.append Ye rfl aU aU (by intro y hy;obtain⟨z,_,rfl⟩:=List.mem_map.1 hy;rfl) ak ak (by simp only[ajM,akH,ajW,ajX];omega) (λv' s' Je=>?_);simp only[IM,EY,E3,simprocAttr,qt,i64,iD,bD,bV,h2,dA,ka];refine⟨iy.length-(i+1),_,_,ae,bA.refl,i+1,rfl,az,?_,?_,?_,?_⟩ <;> (try simp only[zU,pZ,jN,oN,oV,reduceIte])
    ·exact h2
    ·exact dA
    ·rw[bG _ ae];rfl
    ·rw[bm hyz];simpa [Is,iD]using Je
   ·have dX:i=iy.length:=by omega
    subst dX;have aA:¬(iy.length:Int)<iy.length:=ae;have YX:(iy.zip qN).length=iy.length:=by simp [hlc]
    have Ib:(iy.zip qN).take iy.length=iy.zip qN:=by rw[<- YX,akg]
    rw[Ib]at oI;simp only[IM,EY,E3,simprocAttr,qt,i64,iD,bD,bV,h2,dA,ka,Xj,hB3,hB4,aA];refine cu mix [] [] ?_;simp only[IM,EY,E3,simprocAttr,qt,i64,iD,bD,bV,h2,dA,ka,Xj];rw[oI.frz (alf _)];rfl
open Classical in
noncomputable def evX (t:List Int) (F most:Int) (task:Task) (st:bO):Bool×bO:=if h:∃n r,iw t F n most task st=some r then (Classical.choose_spec h).choose else (false,st)
theorem Te{F:Int}{task:Task}{st:bO}{n:Nat}{r:Bool×bO} (h:iw t F n most task st=some r):evX t F most task st=r:=by unfold evX;rw[dif_pos ⟨n,r,h⟩];exact Vx (Classical.choose_spec (Classical.choose_spec (⟨n,r,h⟩:∃n r,iw t F n most task st=some r))) h
theorem IT {re:Re} (h:bU re ai top=true) (hk:re.kids.length<=1000000000):jW re=true:=by
 obtain⟨h1,h2,h3,h4,h5⟩:=eG.1 h;have eO:re.set.length<=64:=by
  split at h2
  ·simp only[gT,aj5,decide_eq_true_eq]at h2;exact h2.1
  ·omega
 refine bi ⟨λho hn=>?_,λho=>?_,ae,hk⟩
 ·have:=h1.2.2.1;rw[hn]at this;simp only[ajX,aka]at this;rcases ho with o|o|o|o|o <;> rw[o]at this <;> simp [cr]at this
 ·have:=h1.2.2.1;rw[ho]at this;simp [cr]at this;omega
theorem Ky (re:Re) (h:re.whole ai top=true) (hs:re.size<=1000000):re.every jW=true:=by revert h hs;refine Re.ind (Q:=λre=>re.whole ai top=true->re.size<=1000000->re.every jW=true) (λre ih h hs=>?_) re;obtain⟨a1,a2⟩:=(Re.aD re).1 h;have:=Re.pR re.kids;have:=Re.size_eq re;exact(Re.aD re).2 ⟨IT a1 ae,λk hk=>ih k hk (a2 k hk) (by have:=Re.de hk;omega)⟩
noncomputable def iW (p:iM) (t:List Int) (at_ most fuel:Int):Bool×bO:=evX t fuel most (.run (.mk 0 p.re 0 0 .nil) at_ (qj p)) ⟨0,false,[],[]⟩
theorem tZ (h:ib p t fuel=0):cS p=0/\t.length<=65536/\t.all (gK p.aB)=true/\0<=fuel/\fuel<=1099511627776:=by
 unfold ib at h;split at h
 ·omega
 ·split at h
  ·omega
  ·split at h
   ·omega
   ·split at h
    ·omega
    ·refine⟨ae,ae,by simp_all,ae,ae⟩
theorem ed (h:cS p=0):p.re.size<=256/\p.re.depth<=24/\0<=p.ai/\p.ai<=9/\p.re.whole p.ai (gH p.aB)=true:=by
 unfold cS at h;split at h
 ·omega
 ·split at h
  ·omega
  ·rename_i h1 h2;refine⟨ae,ae,ae,ae,?_⟩;cases hw:p.re.whole p.ai (gH p.aB) with
   |true=>rfl
   |false=>exact absurd (.inr (.inr hw)) h2
theorem Av{at_:Int} (hv:ib p t fuel=0) (a0:0<=at_) (a1:at_<=t.length) :
  ∃n,iw t fuel n most (.run (.mk 0 p.re 0 0 .nil) at_ (qj p)) ⟨0,false,[],[]⟩=some (iW p t at_ most fuel)/\eo t fuel 0 at_ (qj p).length ⟨0,false,[],[]⟩ (iW p t at_ most fuel).1 (iW p t at_ most fuel).2:=by
 obtain⟨h1,h2,h3,h4,h5⟩:=tZ hv;obtain⟨k1,k2,k3,k4,k5⟩:=ed h1;have ia:(qj p).length<=9:=by unfold qj;rw[akK];omega
 obtain⟨n,b,s',e1,e2,_⟩:=TQ (t:=t) (F:=fuel) ae _ _ most (.run (.mk 0 p.re 0 0 .nil) at_ (qj p)) ⟨0,false,[],[]⟩ (ajZ _) (ajZ _)
  ⟨ae,Ky _ k5 ae,by intro h;omega,by intro h;omega,by intro h;omega,by intro h;omega,trivial⟩
  ⟨a0,a1,⟨by show (qj p).length<=_;omega,λq hq=>.inl (List.eq_of_mem_replicate hq)⟩,rfl,akc _,h4,by simp [Task.iA,eE],rfl⟩
 have hx:iW p t at_ most fuel=(b,s'):=Te e1;rw[hx];exact⟨n,e1,e2⟩
noncomputable def sW (p:iM) (t:List Int) (at_ most fuel:Int):Int:=if ib p t fuel≠0 then ib p t fuel else if at_<0\/(t.length:Int)<at_ then 5 else if (iW p t at_ most fuel).2.empty=true then 11 else 0
noncomputable def allM (p:iM) (t:List Int) (at_ most fuel:Int):List (Int×aH):=if sW p t at_ most fuel=0 then (iW p t at_ most fuel).2.ends.zip (iW p t at_ most fuel).2.ai else []
noncomputable def Vf (p:iM) (t:List Int) (at_ most fuel:Int):Int:=if sW p t at_ most fuel=0 then (iW p t at_ most fuel).2.steps else 0
theorem Qc (p:iM) (t:List Int) (at_ most fuel:Int) (hf:p.re.dx=true) (hs:p.re.size<=1000000000) (ht:t.length<=1000000000) :
  aM prog 48 [bI p,.d (ao t),i64 at_,i64 most,i64 fuel] (.tu [.d (.sl ((allM p t at_ most fuel).map (Is at_))),i64 (Vf p t at_ most fuel),i64 (sW p t at_ most fuel)]):=by
 by_cases hv:ib p t fuel=0
 case neg =>
  have he:sW p t at_ most fuel=ib p t fuel:=by rw[sW,be hv]
  rw[allM,Vf,he,ap hv,ap hv];exact VY p t at_ most fuel hf hs ht hv
 by_cases ha:at_<0\/(t.length:Int)<at_
 ·have he:sW p t at_ most fuel=5:=by rw[sW,bd,be ha]
  rw[allM,Vf,he,bd,bd];exact P6 p t at_ most fuel hf hs ht hv ha
 ·obtain⟨n,e1,e2⟩:=Av (at_:=at_) (most:=most) hv ae ae;obtain⟨h1,h2,_,h4,h5⟩:=tZ hv;obtain⟨_,_,_,k4,_⟩:=ed h1;have he:sW p t at_ most fuel=if (iW p t at_ most fuel).2.empty=true then 11 else 0:=by rw[sW,bd,ap ha]
  rw[allM,Vf,he];generalize iW p t at_ most fuel=X at *;obtain⟨b,x⟩:=X;simp only at e2 ⊢;obtain⟨new,xg,m1,m2,m3,m4,_⟩:=e2.more;have dM:=e2.s1;simp only[ajO]at m1 m2;have hlen:x.ends.length<=2000000000000:=by rw[m1];simp only at m4;omega
  have r:=Wn p t at_ most fuel hf hs ae ae hv ae ae e1 hlen (by rw[m1,m2,m3]);unfold VO at r;split at r
  ·rename_i hh;rw[be hh,ap aU,ap aU];exact r
  ·rename_i hh;rw[ap hh,be rfl,be rfl];exact r
end Go.Proofs.YtjjfioalgbecmaaGreat
namespace Go.Proofs.YtjjfioalgbecmaaGreat
open Go.VL Go.Proofs.Tryz
end Go.Proofs.YtjjfioalgbecmaaGreat
namespace Go.Proofs.YtjjfioalgbecmaaGreat
open Go.VL Go.Proofs.Tryz
structure jy where
 s:Int
 e:Int
 c:aH
deriving DecidableEq
def jy.v (m:jy):V:=.ag [i64 m.s,i64 m.e,.d (cQ m.c)]
theorem SF (a b:jy) (hc:a.c.length<=1000000000):aM prog 12 [a.v,b.v] (bV (decide (a=b))):=by
 obtain⟨s1,e1,c1⟩:=a;obtain⟨s2,e2,c2⟩:=b;simp only at hc;refine bo func12 ntmps12 results12 0 63 ?_;by_cases q1:s1=s2
 case neg =>
  simp only[zI,simprocAttr,-D7,iD,cQ,jy.v,q1];rw[ce (λh=>q1 (by simp only[jy.mk.injEq]at h;exact h.1))];rfl
 by_cases q2:e1=e2
 case neg =>
  simp only[zI,simprocAttr,-D7,iD,cQ,jy.v,q1,q2];rw[ce (λh=>q2 (by simp only[jy.mk.injEq]at h;exact h.2.1))];rfl
 by_cases q3:(c1.length:Int)=c2.length
 case neg =>
  simp only[zI,simprocAttr,-D7,iD,cQ,jy.v,q1,q2,q3,ajM];rw[ce (λh=>q3 (by simp only[jy.mk.injEq]at h;rw[h.2.2]))];rfl
 subst q1 q2;simp only[zI,simprocAttr,-D7,iD,cQ,jy.v,q3,ajM];refine aw (λn e s=>∃i:Nat,n=c1.length-i/\i<=c1.length/\e 2=.rf 0 0 0 0/\e 3=.rf 1 0 0 0/\e 5=i64 i/\s=[⟨0,true,3,[[i64 s1,i64 e1,.d (cQ c1)]]⟩,⟨0,true,3,[[i64 s1,i64 e1,.d (cQ c2)]]⟩]/\c1.take i=c2.take i)
  ⟨_,_,_,bA.refl,0,rfl,ae,rfl,rfl,rfl,rfl,rfl⟩ ?_
 rintro n e s ⟨i,rfl,hi,h2,h3,h5,rfl,Ib⟩;rcases akd i c1.length with az|gx
 ·have SI:i<c2.length:=by omega
  have aA:(i:Int)<c2.length:=ae;obtain⟨x,hx⟩:∃x,c1[i]?=some x:=cc az;obtain⟨y,hy⟩:∃y,c2[i]?=some y:=cc SI;simp only[zI,simprocAttr,-D7,cQ,h2,h3,h5,az,SI,q3,aA,ajM];refine cu mix [] [] ?_;simp only[zI,simprocAttr,-D7,cQ,h2,h3,h5,az,SI,hx,hy,iD,aT,q3,aA,ajM];by_cases Rh:x=y
  ·have hb:(x.1 == y.1&&x.2 == y.2)=true:=by simp [Rh]
   simp only[zI,simprocAttr,-D7,cQ,h2,h3,h5,hb];refine⟨c1.length-(i+1),_,_,ae,bA.refl,i+1,rfl,az,?_,?_,?_,rfl,by rw[bm hx,bm hy,Ib,Rh]⟩ <;> (try simp only[zU,pZ,jN,oN,oV,reduceIte])
   ·exact h2
   ·exact h3
   ·rw[bG _ ae];rfl
  ·have hb:(x.1 == y.1&&x.2 == y.2)=false:=by rw[akE];intro h;exact Rh (by simp at h;exact Prod.ext h.1 h.2)
   simp only[zI,simprocAttr,-D7,cQ,h2,h3,h5,hb];rw[ce (λh=>by simp only[jy.mk.injEq,true_and]at h;subst h;rw[hx]at hy;simp only[ajU]at hy;exact Rh hy)];all_goals exact dW
 ·have dX:i=c1.length:=by omega
  subst dX;have hab:c1=c2:=by rw[akg,akb ae]at Ib;exact Ib
  simp only[zI,simprocAttr,-D7,cQ,h2,h3,h5,ak9,ajM];rw[bi (by rw[hab])];all_goals exact dW
def tT:List Int:=[97,97,97,98,98,99,97,98,10,32,65,200]
def nh (l:List Int) (most:Int):List Int:=(List.range (min l.length most.toNat)).map λi:Nat=>tT.getD (pick l i 12).toNat 0
theorem VI (l:List Int) (hl:∀x∈l,l9 x) (most:Int) (hm:most<=1000000):aM prog 47 [.d (ao l),i64 most] (.d (ao (nh l most))):=by
 refine bo func47 ntmps47 results47 0 115 ?_;simp only[IM,EY,E3,simprocAttr,-D7,qt,i64];refine aw (λm e s=>∃i:Nat,m=min l.length most.toNat-i/\i<=min l.length most.toNat/\e 0=.d (ao l)/\e 1=i64 most/\e 6=i64 i/\Acc [] 1 (e 5) s (((List.range i).map λi:Nat=>tT.getD (pick l i 12).toNat 0).map λx=>[iD x]))
  ⟨_,_,_,bA.refl,0,rfl,ae,rfl,rfl,rfl,.inl ⟨rfl,rfl⟩⟩ ?_
 rintro m e s ⟨i,rfl,hi,h0,h1,h6,oI⟩;have hp:=Om l hl i 12 ae;have hpr:=cb l i 12 ae;simp only[i64]at hp;by_cases c1:(i:Int)<l.length
 case neg =>
  have dX:i=min l.length most.toNat:=ae;simp only[IM,EY,E3,simprocAttr,-D7,qt,i64,ao,h0,h1,h6,c1,ajM];rw[oI.frz ak];subst dX;simp only[nh,ao]
 by_cases c2:(i:Int)<most
 case neg =>
  have dX:i=min l.length most.toNat:=ae;simp only[IM,EY,E3,simprocAttr,-D7,qt,i64,ao,h0,h1,h6,c1,c2,ajM];rw[oI.frz ak];subst dX;simp only[nh,ao]
 simp only[IM,EY,E3,simprocAttr,-D7,qt,i64,h0,h1,h6,c1,c2];refine dY hp ?_;have YI:pick l i 12=0\/pick l i 12=1\/pick l i 12=2\/pick l i 12=3\/pick l i 12=4\/pick l i 12=5\/pick l i 12=6\/pick l i 12=7\/pick l i 12=8\/pick l i 12=9\/pick l i 12=10\/pick l i 12=11:=ae;have go:∀(z:Int),tT.getD (pick l i 12).toNat 0=z->∀(v':V) (s':List VL.Obj),Acc [] 1 v' s' (((List.range i).map λi:Nat=>tT.getD (pick l i 12).toNat 0).map (λx=>[iD x])++[[iD z]])->Acc [] 1 v' s' (((List.range (i+1)).map λi:Nat=>tT.getD (pick l i 12).toNat 0).map λx=>[iD x]):=by intro z hz v' s' h;rw[alb,akF,akF,ajR,ajV,hz];exact h
 rcases YI with q|q|q|q|q|q|q|q|q|q|q|q;all_goals
  rw[q]at go ⊢;simp only[IM,EY,E3,simprocAttr,-D7,qt,i64,h0,h1,h6,Int.toNat_zero,Int.toNat_one];refine⟨ae,?_⟩;refine oI.append Y7 rfl aU aU (by intro y hy;obtain⟨z,_,rfl⟩:=List.mem_map.1 hy;rfl) ak ak (by simp only[ajM,List.length_range,ajW,ajX];omega) (λv' s' Je=>?_);simp only[IM,EY,E3,simprocAttr,-D7,qt,i64,h0,h1,h6];refine⟨min l.length most.toNat-(i+1),_,_,ae,bA.refl,i+1,rfl,ae,?_,?_,?_,?_⟩ <;> (try simp only[zU,pZ,jN,oN,oV,reduceIte])
  ·exact h0
  ·exact h1
  ·rw[bG _ ae];rfl
  ·exact go _ rfl _ _ Je
noncomputable def wT (p:iM) (t:List Int) (n:Nat) (fuel:Int) (i:Nat):Bool:=decide (sW p (t.take n) i (-1) fuel=0)
noncomputable def dR (p:iM) (t:List Int) (fuel:Int):Nat->iM×List Int
 |0=>(⟨.mk 0 [] [] 0 0 0 0 false,p.ai,false⟩,[])
 |n+1=>if (List.range (n+1)).all (wT p t n fuel)=true then (p,t.take n) else dR p t fuel n
theorem DH (f:Nat->Bool) (n:Nat):(List.range (n+1)).all f=((List.range n).all f&&f n):=by rw[alb,akZ];simp
def vO (p:iM):List VL.Obj:=[⟨0,true,10,[[i64 0,.fu [],.fu [],i64 0,i64 0,i64 0,i64 0,bV false,i64 0,bV false]]⟩,⟨0,true,10,[p.re.cells.map V.d++[i64 p.ai,bV p.aB]]⟩]
theorem WM (l m:List Int) (hl:∀x∈l,l9 x) (hm:∀x∈m,l9 x) (cL most fuel:Int) (h0:0<=most) (h1:most<=100) :
  aM prog 21 [.d (ao l),.d (ao m),i64 cL,i64 most,i64 fuel]
   (.tu [bI (dR (ma l cL most) (nh m 12) fuel ((nh m 12).length+1)).1,.d (ao (dR (ma l cL most) (nh m 12) fuel ((nh m 12).length+1)).2)]):=by
 have YM:=MR l cL most hl h0 ae;have htx:=VI m hm 12 ae;obtain⟨hv,eZ⟩:=Al l cL most hl h0 h1;have hsm:=GV l cL most hl h0 h1;have Sr:(ma l cL most).re.dx=true:=DX ae _ hsm.ev;have Kb:(nh m 12).length<=12:=by simp [nh];omega
 generalize ma l cL most=p at *;generalize nh m 12=t at *;have bX:=λ(n i:Nat)=>Qc p (t.take n) i (-1) fuel Sr ae (by rw[akH];omega);generalize hR:dR p t fuel (t.length+1)=R;have hpc:=Re.ah p.re;simp only[bI,Re.ah p.re,ajR,ajV,ajN,ajO,i64,iD,bD,bV]at YM bX;simp only[i64]at htx;refine bo func21 ntmps21 results21 0 654367 ?_;simp only[zX,simprocAttr,-D7,i64];refine dY YM ?_;simp only[zX,simprocAttr,-D7,i64];refine dY htx ?_;simp only[zI,simprocAttr,-D7,ao,ajM];refine aw (λN e s=>e 4=i64 fuel/\e 10=.rf 0 0 0 0/\e 12=.rf 1 0 0 0/\e 13=.d (ao t)/\e 14=i64 ((N:Int)-1)/\N<=t.length+1/\dR p t fuel N=R/\s=vO p)
  ⟨t.length+1,_,_,bA.refl,rfl,rfl,rfl,rfl,?_,ajZ _,hR,?_⟩ ?_
 ·show i64 _=i64 _;congr 1;omega
 ·unfold vO;rw[Re.ah];rfl
 clear YM htx hR;rintro N e s ⟨h4,cA,dV,gr,dA,hN,hR,rfl⟩;cases N with
 |zero =>
  unfold vO;rw[Re.ah];simp only[zI,simprocAttr,-D7,h4,cA,dV,gr,dA,bD,iD,aka,Int.zero_sub];subst hR;simp only[dR,bI,Re.cells];rfl
 |succ n =>
  have e14:((n+1:Nat):Int)-1=n:=ae;rw[e14]at dA;have gp:(0:Int)<=n:=ae;unfold vO;rw[Re.ah];simp only[zI,simprocAttr,-D7,h4,cA,dV,gr,dA,bD,iD,gp,ge_iff_le];refine aw (λM e s=>∃i:Nat,M=n+1-i/\i<=n+1/\e 4=i64 fuel/\e 10=.rf 0 0 0 0/\e 12=.rf 1 0 0 0/\e 13=.d (ao t)/\e 14=i64 n/\e 15=bV ((List.range i).all (wT p t n fuel))/\e 16=i64 i/\s=vO p)
   ⟨_,_,_,bA.refl,0,rfl,ae,?_,?_,?_,?_,?_,rfl,rfl,?_⟩ ?_ <;> (try simp only[zU,pZ,jN,oN,oV,reduceIte])
  ·exact h4
  ·exact cA
  ·exact dV
  ·exact gr
  ·exact dA
  ·unfold vO;rw[Re.ah];rfl
  rintro M e s ⟨i,rfl,hi,h4,cA,dV,gr,dA,ji,ka,rfl⟩;have bad:(List.range (n+1)).all (wT p t n fuel)=false->dR p t fuel n=R:=by intro h;rw[dR,h]at hR;exact hR
  by_cases wF:(i:Int)<=n
  ·cases hg:(List.range i).all (wT p t n fuel) with
   |false =>
    rw[hg]at ji;unfold vO;rw[Re.ah];simp only[zI,simprocAttr,-D7,h4,cA,dV,gr,dA,ji,ka,bD,iD,wF,bV];refine⟨n,_,_,ae,bA.refl,?_,?_,?_,?_,?_,ae,bad ?_,?_⟩ <;> (try simp only[zU,pZ,jN,oN,oV,reduceIte])
    ·exact h4
    ·exact cA
    ·exact dV
    ·exact gr
    ·rw[bG _ ae]
    ·rw[akE]at hg ⊢;intro h;apply hg;rw[aj3]at h ⊢;exact λx hx=>h x (List.mem_range.2 (by have:=List.mem_range.1 hx;omega))
   |true =>
    rw[hg]at ji;have xu:=bX n i;have Mb:n<=t.length:=ae;unfold vO;rw[Re.ah];simp only[zI,simprocAttr,-D7,h4,cA,dV,gr,dA,ji,ka,bD,iD,wF,bV];refine cu mix [] [] ?_;simp only[zI,simprocAttr,-D7,h4,cA,dV,gr,dA,ji,ka,bD,iD,ao,ajM,gp,Mb];refine⟨ae,?_⟩;have Ib:List.take ((n:Int)-0).toNat (List.map (λx=>[D.sc (.int .i64 x)]) t)=(t.take n).map (λx=>[D.sc (.int .i64 x)]):=by rw[<- List.map_take];congr 2
    rw[Ib];simp only[ao,iD]at xu;refine Fk xu ?_;simp only[zI,simprocAttr,-D7,h4,cA,dV,gr,dA,ji,ka,bD,iD,ao,ajM,gp,Mb];refine⟨n+1-(i+1),_,_,ae,bA.refl,i+1,rfl,ae,?_,?_,?_,?_,?_,?_,?_,?_⟩ <;> (try simp only[zU,pZ,jN,oN,oV,reduceIte])
    ·exact h4
    ·exact cA
    ·exact dV
    ·exact gr
    ·exact dA
    ·rw[DH,hg,ak5];rfl
    ·rw[bG _ ae];rfl
  ·have dX:i=n+1:=by omega
   subst dX;cases hg:(List.range (n+1)).all (wT p t n fuel) with
   |false =>
    rw[hg]at ji;unfold vO;rw[Re.ah];simp only[zI,simprocAttr,-D7,h4,cA,dV,gr,dA,ji,ka,bD,iD,wF,bV];refine⟨n,_,_,ae,bA.refl,?_,?_,?_,?_,?_,ae,bad hg,?_⟩ <;> (try simp only[zU,pZ,jN,oN,oV,reduceIte])
    ·exact h4
    ·exact cA
    ·exact dV
    ·exact gr
    ·rw[bG _ ae]
   |true =>
    rw[hg]at ji;rw[dR,hg,be rfl]at hR;subst hR;unfold vO;rw[Re.ah];have Mb:n<=t.length:=ae;simp only[zI,simprocAttr,-D7,h4,cA,dV,gr,dA,ji,ka,bD,iD,wF,bV];refine cu mix [] [(0,[1],[]),(4,[0],[0])] ?_;simp only[zI,simprocAttr,-D7,h4,cA,dV,gr,dA,ji,ka,bD,iD,ao,ajM,gp,Mb];refine⟨ae,?_⟩;have Ib:List.take ((n:Int)-0).toNat (List.map (λx=>[D.sc (.int .i64 x)]) t)=(t.take n).map (λx=>[D.sc (.int .i64 x)]):=by rw[<- List.map_take];congr 2
    rw[Ib,bI,Re.ah];rfl
inductive adY where
 |nil
 |root
 |el (re:Re)
inductive Xs where
 |nil
 |mk (kind:Int) (re:adY) (n at_:Int) (next:Xs)
structure MQ where
 at_:Int
 ai:aH
 todo:Xs
structure SR where
 p:iM
 t:List Int
 VA:Bool
 own:List Int
 ahz:Nat
 stk:List (Option MQ)
 top:Nat
 gen:Nat
 acX:Int
 start:Int
 steps:Int
 fuel:Int
 aae:Bool
 ready:Bool
def SR.step (m:SR):SR:=if m.steps<m.fuel then { m with steps:=m.steps+1 } else { m with aae:=true }
end Go.Proofs.YtjjfioalgbecmaaGreat
