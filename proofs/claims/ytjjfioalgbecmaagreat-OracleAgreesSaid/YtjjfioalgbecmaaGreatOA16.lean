/- A part of the proof. -/
import Derived.RangeFuncLeaves
import Derived.RangeFuncKeeps
import Derived.Test.YtjjfioalgbecmaaGreatOA15
set_option linter.unusedSimpArgs false
set_option linter.unusedVariables false
open Nat renaming reduceShiftRight → qa, reduceMod → qe, reduceEqDiff → Fp, reduceAdd → Fq, reduceBEq → Ft
open Int renaming reduceNatCast' → FF
set_option maxRecDepth 100000
set_option maxHeartbeats 80000000
namespace Go.Proofs.YtjjfioalgbecmaaGreat
open Go.VL Go.Proofs.Tryz
variable{ai:Int}{t:List Int}{aj:Int}{top:Int}{fuel:Int}{p:fU}
def JB (at_:Int) (x:Int×aC):List D:=[iD at_,iD x.1,bS x.2]
def nR (p:fU):aC:=List.replicate p.aj.toNat (-1,-1)
def WR (at_:Int) (x:bE):V:=if x.empty=true then .tu [.d (.sl []),i64 0,i64 11] else .tu [.d (.sl ((x.ends.zip x.aj).map (JB at_))),i64 x.steps,i64 0]
def acV (e:Int):V:=.tu [.d (.sl []),i64 0,i64 e]
theorem W0 (p:fU) (t:List Int) (at_ ai fuel:Int) (hf:p.re.df=true) (hs:p.re.size<=1000000000) (ht:t.length<=1000000000) (hv:e9 p t fuel≠0) :
  aS prog 48 [bk p,.d (ar t),i64 at_,i64 ai,i64 fuel] (acV (e9 p t fuel)):=by
 have h1:=A9 p t fuel hf hs ht;cases p with
 |mk re aj aM =>
 simp only[bk,Re.ah re,ak8,ak9,ak5,ak6,i64,iD,bD,bV]at h1;generalize e9 ⟨re,aj,aM⟩ t fuel=v at *;refine br func48 ntmps48 results48 0 130111 ?_;simp only[zI,simprocAttr,bk,Re.ah re,bV,iD,bD];refine dk h1 ?_;simp only[zI,simprocAttr,bk,bV,iD,bD,hv];rfl
theorem Rd (p:fU) (t:List Int) (at_ ai fuel:Int) (hf:p.re.df=true) (hs:p.re.size<=1000000000) (ht:t.length<=1000000000) (hv:e9 p t fuel=0) (ha:at_<0\/t.length<at_) :
  aS prog 48 [bk p,.d (ar t),i64 at_,i64 ai,i64 fuel] (acV 5):=by
 have h1:=A9 p t fuel hf hs ht;rw[hv]at h1;cases p with
 |mk re aj aM =>
 simp only[bk,Re.ah re,ak8,ak9,ak5,ak6,i64,iD,bD,bV]at h1;refine br func48 ntmps48 results48 0 130111 ?_;simp only[zI,simprocAttr,bk,Re.ah re,bV,iD,bD];refine dk h1 ?_;simp only[zI,simprocAttr,bk,bV,iD,bD];by_cases c1:at_<0
 ·simp only[zI,simprocAttr,bk,bV,iD,bD,c1];rfl
 ·have c2:(t.length:Int)<at_:=ha.resolve_left c1;simp only[zI,simprocAttr,bk,bV,iD,bD,c1,c2,ar,gt_iff_lt,ak4];rfl
def afr (re:Re) (aj:Int) (aM:Bool) (t:List Int) (ai fuel xs:Int) (iQ:List Int) (rX:List aC):List VL.Obj :=
 [⟨0,true,10,[[.d (.sc (.int .i64 re.op)),.d (.sl (re.set.map aU)),.d (.sl (re.kids.map Re.cells)),.d (.sc (.int .i64 re.mn)),.d (.sc (.int .i64 re.mx)),.d (.sc (.int .i64 re.mode)),.d (.sc (.int .i64 re.n)),.d (.sc (.bool re.neg)),.d (.sc (.int .i64 aj)),.d (.sc (.bool aM))]]⟩,
  ⟨0,true,7,[[.d (ar t),.d (.sc (.int .i64 ai)),.d (.sc (.int .i64 fuel)),.d (.sc (.int .i64 xs)),.d (.sc (.bool false)),.so 3 iQ.length 0 iQ.length,.so 4 iQ.length 0 rX.length]]⟩,
  ⟨1,false,12,[[.d (.sc (.int .i64 0)),.d (.sc (.int .i64 re.op)),.d (.sl (re.set.map aU)),.d (.sl (re.kids.map Re.cells)),.d (.sc (.int .i64 re.mn)),.d (.sc (.int .i64 re.mx)),.d (.sc (.int .i64 re.mode)),.d (.sc (.int .i64 re.n)),.d (.sc (.bool re.neg)),.d (.sc (.int .i64 0)),.d (.sc (.int .i64 0)),.d (.sc (.pointer none))]]⟩,
  ⟨iQ.length,true,1,iQ.map λx=>[.d (.sc (.int .i64 x))]⟩,⟨iQ.length,true,1,rX.map λc=>[.d (bS c)]⟩]
theorem Xq (p:fU) (t:List Int) (at_ ai fuel:Int) (hf:p.re.df=true) (hs:p.re.size<=1000000000) (ht:t.length<=1000000) (hc:p.aj<=1000000) (hv:e9 p t fuel=0) (a0:0<=at_) (a1:at_<=t.length)
  {n:Nat}{b:Bool}{x:bE} (hx:eK t fuel n ai (.run (.mk 0 p.re 0 0 .nil) at_ (nR p)) ⟨0,false,[],[]⟩=some (b,x)) (hl:x.ends.length<=2000000000000) (hlc:x.aj.length=x.ends.length) :
  aS prog 48 [bk p,.d (ar t),i64 at_,i64 ai,i64 fuel] (WR at_ x):=by
 have h1:=A9 p t fuel hf hs ae;have hb:=W5 p.aj hc;have GA:Goal.nil.d=.sc (.pointer none):=rfl;rw[hv]at h1;have dU:=PQ (F:=fuel) ht n 0 ai _ _ _ _ hx;unfold cu dW fV fk at dU;unfold nR at dU;cases p with
 |mk re aj aM =>
 simp only[Goal.bP,GA,i64,bV,iD,bD]at dU;simp only[i64]at hb;simp only[bk,Re.ah re,ak8,ak9,ak5,ak6,i64,iD,bD,bV]at h1;clear hx hv;have c1:¬at_<0:=ae;have c2:¬(t.length:Int)<at_:=ae;refine br func48 ntmps48 results48 0 130111 ?_;simp only[zI,simprocAttr,bk,Re.ah re,bV,iD,bD];refine dk h1 ?_;simp only[zI,simprocAttr,bk,bV,iD,bD,c1,c2,ar,gt_iff_lt,ak4];refine aW cr.bu ?_;refine cP mix [9] [(4,[2],[2])] ?_;simp only[zI,simprocAttr,bV,hole];refine HD hb ?_;simp only[zQ,simprocAttr];refine cU (r:=.d (.sc (.bool b))) (s1:=[⟨0,true,10,[[.d (.sc (.int .i64 re.op)),.d (.sl (re.set.map aU)),.d (.sl (re.kids.map Re.cells)),.d (.sc (.int .i64 re.mn)),.d (.sc (.int .i64 re.mx)),.d (.sc (.int .i64 re.mode)),.d (.sc (.int .i64 re.n)),.d (.sc (.bool re.neg)),.d (.sc (.int .i64 aj)),.d (.sc (.bool aM))]]⟩,
  ⟨0,true,7,[[.d (ar t),.d (.sc (.int .i64 ai)),.d (.sc (.int .i64 fuel)),.d (.sc (.int .i64 x.steps)),.d (.sc (.bool x.empty)),.so 3 x.ends.length 0 x.ends.length,.so 4 x.ends.length 0 x.aj.length]]⟩,
  ⟨1,false,12,[[.d (.sc (.int .i64 0)),.d (.sc (.int .i64 re.op)),.d (.sl (re.set.map aU)),.d (.sl (re.kids.map Re.cells)),.d (.sc (.int .i64 re.mn)),.d (.sc (.int .i64 re.mx)),.d (.sc (.int .i64 re.mode)),.d (.sc (.int .i64 re.n)),.d (.sc (.bool re.neg)),.d (.sc (.int .i64 0)),.d (.sc (.int .i64 0)),.d (.sc (.pointer none))]]⟩,
  ⟨x.ends.length,true,1,x.ends.map λx=>[.d (.sc (.int .i64 x))]⟩,⟨x.ends.length,true,1,x.aj.map λc=>[.d (bS c)]⟩]) ?_ ?_
 ·refine bC (cargs:=[.rf 1 0 0 0,.d (.el [.sc (.int .i64 0),.sc (.int .i64 re.op),.sl (re.set.map aU),.sl (re.kids.map Re.cells),.sc (.int .i64 re.mn),.sc (.int .i64 re.mx),.sc (.int .i64 re.mode),.sc (.int .i64 re.n),.sc (.bool re.neg),.sc (.int .i64 0),.sc (.int .i64 0),.sc (.pointer none)]),.d (.sc (.int .i64 at_)),.d (bS (List.replicate aj.toNat (-1,-1)))]) [2] (by simp [bI,bU,bq.go,bq,cJ]) ?_;simp only[bI,bU,List.getElem?_cons_zero,List.getElem?_cons_succ,alD,alA];refine iX (pre:=[.d (ar t),.d (.sc (.int .i64 ai)),.d (.sc (.int .i64 fuel)),.d (.sc (.int .i64 0)),.d (.sc (.bool false))]) (post:=[.fu []]) 1 1 rfl rfl rfl ?_;simp only[alD,alA,ak5,ak6,alg,alf,Fq];refine iX (pre:=[.d (ar t),.d (.sc (.int .i64 ai)),.d (.sc (.int .i64 fuel)),.d (.sc (.int .i64 0)),.d (.sc (.bool false)),.so 3 0 0 0]) (post:=[]) 1 1 rfl rfl rfl ?_;simp only[alD,alA,ak5,ak6,alg,alf,Fq];refine dD [1,3,4] dU aF rfl rfl rfl rfl ?_ rfl ?_
  ·rfl
  simp only[ak8,ak9,xS,aT,alA,alD,ba,aI,aI.go,ama,alY,alH,and_self,true_and];rfl
 ·clear dU;obtain⟨xs,xe,iQ,rX⟩:=x;simp only at hl hlc;cases xe with
  |true =>
   simp only[zQ,simprocAttr,WR]
  |false =>
   simp only[JT,F6,F7,simprocAttr,rJ,i64,bV,iD,bD,WR,alk,if_false];refine ay (λn e s=>∃i:Nat,n=iQ.length-i/\i<=iQ.length/\e 2=i64 at_/\e 14=.rf 1 0 0 0/\e 16=i64 i/\Acc (afr re aj aM t ai fuel xs iQ rX) 3 (e 15) s (((iQ.zip rX).take i).map (JB at_)))
    ⟨_,_,_,bO.refl,0,rfl,ae,rfl,rfl,rfl,.inl ⟨rfl,rfl⟩⟩ ?_
   rintro n e s ⟨i,rfl,hi,h2,gP,m9,kf⟩;have Yk:=kf.get (id:=1) rfl;have hB3:=kf.get (id:=3) rfl;have hB4:=kf.get (id:=4) rfl;have ah9:(0:Int)<=i:=ae;rcases alw i iQ.length with aE|gE
   ·obtain⟨y,hy⟩:∃y,iQ[i]?=some y:=cb aE;obtain⟨z,hz⟩:∃z,rX[i]?=some z:=cb;have hyz:(iQ.zip rX)[i]?=some (y,z):=by rw[List.getElem?_zip_eq_some];exact⟨hy,hz⟩
    have aH:(i:Int)<iQ.length:=ae;have afQ:i<rX.length:=ae;simp only[JT,F6,F7,simprocAttr,rJ,i64,iD,bD,bV,h2,gP,m9,Yk,hB3,hB4,aH,aE];refine cP mix [18] [] ?_;simp only[JT,F6,F7,simprocAttr,rJ,i64,iD,bD,bV,h2,gP,m9,Yk,hB3,hB4,aH,aE,afQ,hy,hz,alc];refine kf.append ZB rfl aF aF (by intro y hy;obtain⟨z,_,rfl⟩:=List.mem_map.1 hy;rfl) aq aq (by simp only[ak4,alM,alg,alf];omega) (λv' s' Kh=>?_);simp only[JT,F6,F7,simprocAttr,rJ,i64,iD,bD,bV,h2,gP,m9];refine⟨iQ.length-(i+1),_,_,ae,bO.refl,i+1,rfl,aE,?_,?_,?_,?_⟩ <;> (try simp only[zU,Ft,qa,qe,Fp,reduceIte])
    ·exact h2
    ·exact gP
    ·rw[bK _ ae];rfl
    ·rw[bn hyz];simpa [JB,iD]using Kh
   ·have eg:i=iQ.length:=by omega
    subst eg;have aH:¬(iQ.length:Int)<iQ.length:=ae;have hzl:(iQ.zip rX).length=iQ.length:=by simp [hlc]
    have yO:(iQ.zip rX).take iQ.length=iQ.zip rX:=by rw[<- hzl,alr]
    rw[yO]at kf;simp only[JT,F6,F7,simprocAttr,rJ,i64,iD,bD,bV,h2,gP,m9,Yk,hB3,hB4,aH];refine cP mix [] [] ?_;simp only[JT,F6,F7,simprocAttr,rJ,i64,iD,bD,bV,h2,gP,m9,Yk];rw[kf.frz (Nat.zero_le _)];rfl
open Classical in
noncomputable def evX (t:List Int) (F ai:Int) (task:Task) (st:bE):Bool×bE:=if h:∃n r,eK t F n ai task st=some r then (Classical.choose_spec h).choose else (false,st)
theorem Up{F:Int}{task:Task}{st:bE}{n:Nat}{r:Bool×bE} (h:eK t F n ai task st=some r):evX t F ai task st=r:=by unfold evX;rw[dif_pos ⟨n,r,h⟩];exact Wy (Classical.choose_spec (Classical.choose_spec (⟨n,r,h⟩:∃n r,eK t F n ai task st=some r))) h
theorem BB {re:Re} (h:bX re aj top=true) (hk:re.kids.length<=1000000000):ks re=true:=by
 obtain⟨h1,h2,h3,h4,h5⟩:=eZ.1 h;have fB:re.set.length<=64:=by
  exact ZcX
 refine bi ⟨λho hn=>?_,λho=>?_,ae,hk⟩
 ·have:=h1.2.2.1;rw[hn]at this;simp only[alf,alv]at this;rcases ho with o|o|o|o|o <;> rw[o]at this <;> simp [cE]at this
 ·have:=h1.2.2.1;rw[ho]at this;simp [cE]at this;omega
theorem Lw (re:Re) (h:re.whole aj top=true) (hs:re.size<=1000000):re.every ks=true:=by revert h hs;refine Re.ind (Q:=λre=>re.whole aj top=true->re.size<=1000000->re.every ks=true) (λre ih h hs=>?_) re;obtain⟨a1,a2⟩:=(Re.az re).1 h;have:=Re.mX re.kids;have:=Re.size_eq re;exact(Re.az re).2 ⟨BB a1 ae,λk hk=>ih k hk (a2 k hk) (by have:=Re.bZ hk;omega)⟩
noncomputable def ef (p:fU) (t:List Int) (at_ ai fuel:Int):Bool×bE:=evX t fuel ai (.run (.mk 0 p.re 0 0 .nil) at_ (nR p)) ⟨0,false,[],[]⟩
theorem n5 (h:e9 p t fuel=0):cI p=0/\t.length<=65536/\t.all (eM p.aM)=true/\0<=fuel/\fuel<=1099511627776:=by
 unfold e9 at h;split at h
 ·omega
 ·split at h
  ·omega
  ·split at h
   ·omega
   ·split at h
    ·omega
    ·refine⟨ae,ae,by simp_all,ae,ae⟩
theorem cW (h:cI p=0):p.re.size<=256/\p.re.depth<=24/\0<=p.aj/\p.aj<=9/\p.re.whole p.aj (e8 p.aM)=true:=by
 unfold cI at h;split at h
 ·omega
 ·split at h
  ·omega
  ·rename_i h1 h2;refine⟨ae,ae,ae,ae,?_⟩;cases hw:p.re.whole p.aj (e8 p.aM) with
   |true=>rfl
   |false=>exact absurd (.inr (.inr hw)) h2
theorem lg{at_:Int} (hv:e9 p t fuel=0) (a0:0<=at_) (a1:at_<=t.length) :
  ∃n,eK t fuel n ai (.run (.mk 0 p.re 0 0 .nil) at_ (nR p)) ⟨0,false,[],[]⟩=some (ef p t at_ ai fuel)/\eN t fuel 0 at_ (nR p).length ⟨0,false,[],[]⟩ (ef p t at_ ai fuel).1 (ef p t at_ ai fuel).2:=by
 obtain⟨h1,h2,h3,h4,h5⟩:=n5 hv;obtain⟨k1,k2,k3,k4,k5⟩:=cW h1;have cQ:(nR p).length<=9:=by unfold nR;rw[alQ];omega
 obtain⟨n,b,s',e1,e2,_⟩:=U5 (t:=t) (F:=fuel) ae _ _ ai (.run (.mk 0 p.re 0 0 .nil) at_ (nR p)) ⟨0,false,[],[]⟩ (ale _) (ale _)
  ⟨ae,Lw _ k5 ae,by intro h;omega,by intro h;omega,by intro h;omega,by intro h;omega,trivial⟩
  ⟨a0,a1,⟨by show (nR p).length<=_;omega,λq hq=>.inl (List.eq_of_mem_replicate hq)⟩,rfl,alj _,h4,by simp [Task.iS,eY],rfl⟩
 have hx:ef p t at_ ai fuel=(b,s'):=Up e1;rw[hx];exact⟨n,e1,e2⟩
noncomputable def iu (p:fU) (t:List Int) (at_ ai fuel:Int):Int:=if e9 p t fuel≠0 then e9 p t fuel else if at_<0\/(t.length:Int)<at_ then 5 else if (ef p t at_ ai fuel).2.empty=true then 11 else 0
noncomputable def allM (p:fU) (t:List Int) (at_ ai fuel:Int):List (Int×aC):=if iu p t at_ ai fuel=0 then (ef p t at_ ai fuel).2.ends.zip (ef p t at_ ai fuel).2.aj else []
noncomputable def Ay (p:fU) (t:List Int) (at_ ai fuel:Int):Int:=if iu p t at_ ai fuel=0 then (ef p t at_ ai fuel).2.steps else 0
theorem Ro (p:fU) (t:List Int) (at_ ai fuel:Int) (hf:p.re.df=true) (hs:p.re.size<=1000000000) (ht:t.length<=1000000000) :
  aS prog 48 [bk p,.d (ar t),i64 at_,i64 ai,i64 fuel] (.tu [.d (.sl ((allM p t at_ ai fuel).map (JB at_))),i64 (Ay p t at_ ai fuel),i64 (iu p t at_ ai fuel)]):=by
 by_cases hv:e9 p t fuel=0
 case neg =>
  have he:iu p t at_ ai fuel=e9 p t fuel:=by rw[iu,be hv]
  rw[allM,Ay,he,ap hv,ap hv];exact W0 p t at_ ai fuel hf hs ht hv
 by_cases ha:at_<0\/(t.length:Int)<at_
 ·have he:iu p t at_ ai fuel=5:=by rw[iu,bm,be ha]
  rw[allM,Ay,he,bm,bm];exact Rd p t at_ ai fuel hf hs ht hv ha
 ·obtain⟨n,e1,e2⟩:=lg (at_:=at_) (ai:=ai) hv ae ae;obtain⟨h1,h2,_,h4,h5⟩:=n5 hv;obtain⟨_,_,_,k4,_⟩:=cW h1;have he:iu p t at_ ai fuel=if (ef p t at_ ai fuel).2.empty=true then 11 else 0:=by rw[iu,bm,ap ha]
  rw[allM,Ay,he];generalize ef p t at_ ai fuel=X at *;obtain⟨b,x⟩:=X;simp only at e2 ⊢;obtain⟨new,tz,m1,m2,m3,m4,_⟩:=e2.more;have dL:=e2.s1;simp only[ak6]at m1 m2;have hlen:x.ends.length<=2000000000000:=by rw[m1];simp only at m4;omega
  have r:=Xq p t at_ ai fuel hf hs ae ae hv ae ae e1 hlen (by rw[m1,m2,m3]);unfold WR at r;split at r
  ·rename_i hh;rw[be hh,ap aF,ap aF];exact r
  ·rename_i hh;rw[ap hh,be rfl,be rfl];exact r
end Go.Proofs.YtjjfioalgbecmaaGreat
namespace Go.Proofs.YtjjfioalgbecmaaGreat
open Go.VL Go.Proofs.Tryz
end Go.Proofs.YtjjfioalgbecmaaGreat
namespace Go.Proofs.YtjjfioalgbecmaaGreat
open Go.VL Go.Proofs.Tryz
structure mL where
 s:Int
 e:Int
 c:aC
deriving DecidableEq
def mL.v (m:mL):V:=.ag [i64 m.s,i64 m.e,.d (bS m.c)]
theorem K5 (a b:mL) (hc:a.c.length<=1000000000):aS prog 12 [a.v,b.v] (bV (decide (a=b))):=by
 obtain⟨s1,e1,c1⟩:=a;obtain⟨s2,e2,c2⟩:=b;simp only at hc;refine br func12 ntmps12 results12 0 63 ?_;by_cases q1:s1=s2
 case neg =>
  simp only[zI,simprocAttr,-FF,iD,bS,mL.v,q1];rw[ce (λh=>q1 (by simp only[mL.mk.injEq]at h;exact h.1))];rfl
 by_cases q2:e1=e2
 case neg =>
  simp only[zI,simprocAttr,-FF,iD,bS,mL.v,q1,q2];rw[ce (λh=>q2 (by simp only[mL.mk.injEq]at h;exact h.2.1))];rfl
 by_cases q3:(c1.length:Int)=c2.length
 case neg =>
  simp only[zI,simprocAttr,-FF,iD,bS,mL.v,q1,q2,q3,ak4];rw[ce (λh=>q3 (by simp only[mL.mk.injEq]at h;rw[h.2.2]))];rfl
 subst q1 q2;simp only[zI,simprocAttr,-FF,iD,bS,mL.v,q3,ak4];refine ay (λn e s=>∃i:Nat,n=c1.length-i/\i<=c1.length/\e 2=.rf 0 0 0 0/\e 3=.rf 1 0 0 0/\e 5=i64 i/\s=[⟨0,true,3,[[i64 s1,i64 e1,.d (bS c1)]]⟩,⟨0,true,3,[[i64 s1,i64 e1,.d (bS c2)]]⟩]/\c1.take i=c2.take i)
  ⟨_,_,_,bO.refl,0,rfl,ae,rfl,rfl,rfl,rfl,rfl⟩ ?_
 rintro n e s ⟨i,rfl,hi,h2,h3,h5,rfl,yO⟩;rcases alw i c1.length with aE|gE
 ·have TN:i<c2.length:=by omega
  have aH:(i:Int)<c2.length:=ae;obtain⟨x,hx⟩:∃x,c1[i]?=some x:=cb aE;obtain⟨y,hy⟩:∃y,c2[i]?=some y:=cb TN;simp only[zI,simprocAttr,-FF,bS,h2,h3,h5,aE,TN,q3,aH,ak4];refine cP mix [] [] ?_;simp only[zI,simprocAttr,-FF,bS,h2,h3,h5,aE,TN,hx,hy,iD,aU,q3,aH,ak4];by_cases So:x=y
  ·have hb:(x.1 == y.1&&x.2 == y.2)=true:=by simp [So]
   simp only[zI,simprocAttr,-FF,bS,h2,h3,h5,hb];refine⟨c1.length-(i+1),_,_,ae,bO.refl,i+1,rfl,aE,?_,?_,?_,rfl,by rw[bn hx,bn hy,yO,So]⟩ <;> (try simp only[zU,Ft,qa,qe,Fp,reduceIte])
   ·exact h2
   ·exact h3
   ·rw[bK _ ae];rfl
  ·have hb:(x.1 == y.1&&x.2 == y.2)=false:=by rw[alP];intro h;exact So (by simp at h;exact Prod.ext h.1 h.2)
   simp only[zI,simprocAttr,-FF,bS,h2,h3,h5,hb];rw[ce (λh=>by simp only[mL.mk.injEq,true_and]at h;subst h;rw[hx]at hy;simp only[alb]at hy;exact So hy)];all_goals exact dX
 ·have eg:i=c1.length:=by omega
  subst eg;have hab:c1=c2:=by rw[alr,aln ae]at yO;exact yO
  simp only[zI,simprocAttr,-FF,bS,h2,h3,h5,al5,ak4];rw[bi (by rw[hab])];all_goals exact dX
def pX:List Int:=[97,97,97,98,98,99,97,98,10,32,65,200]
def ki (l:List Int) (ai:Int):List Int:=(List.range (min l.length ai.toNat)).map λi:Nat=>pX.getD (pick l i 12).toNat 0
theorem WM (l:List Int) (hl:∀x∈l,jD x) (ai:Int) (hm:ai<=1000000):aS prog 47 [.d (ar l),i64 ai] (.d (ar (ki l ai))):=by
 refine br func47 ntmps47 results47 0 115 ?_;simp only[JT,F6,F7,simprocAttr,-FF,rJ,i64];refine ay (λm e s=>∃i:Nat,m=min l.length ai.toNat-i/\i<=min l.length ai.toNat/\e 0=.d (ar l)/\e 1=i64 ai/\e 6=i64 i/\Acc [] 1 (e 5) s (((List.range i).map λi:Nat=>pX.getD (pick l i 12).toNat 0).map λx=>[iD x]))
  ⟨_,_,_,bO.refl,0,rfl,ae,rfl,rfl,rfl,.inl ⟨rfl,rfl⟩⟩ ?_
 rintro m e s ⟨i,rfl,hi,h0,h1,h6,kf⟩;have hp:=CW l hl i 12 ae;have hpr:=cH l i 12 ae;simp only[i64]at hp;by_cases c1:(i:Int)<l.length
 case neg =>
  have eg:i=min l.length ai.toNat:=ae;simp only[JT,F6,F7,simprocAttr,-FF,rJ,i64,ar,h0,h1,h6,c1,ak4];rw[kf.frz aq];subst eg;simp only[ki,ar]
 by_cases c2:(i:Int)<ai
 case neg =>
  have eg:i=min l.length ai.toNat:=ae;simp only[JT,F6,F7,simprocAttr,-FF,rJ,i64,ar,h0,h1,h6,c1,c2,ak4];rw[kf.frz aq];subst eg;simp only[ki,ar]
 simp only[JT,F6,F7,simprocAttr,-FF,rJ,i64,h0,h1,h6,c1,c2];refine dk hp ?_;have aac:pick l i 12=0\/pick l i 12=1\/pick l i 12=2\/pick l i 12=3\/pick l i 12=4\/pick l i 12=5\/pick l i 12=6\/pick l i 12=7\/pick l i 12=8\/pick l i 12=9\/pick l i 12=10\/pick l i 12=11:=ae;have go:∀(z:Int),pX.getD (pick l i 12).toNat 0=z->∀(v':V) (s':List VL.Obj),Acc [] 1 v' s' (((List.range i).map λi:Nat=>pX.getD (pick l i 12).toNat 0).map (λx=>[iD x])++[[iD z]])->Acc [] 1 v' s' (((List.range (i+1)).map λi:Nat=>pX.getD (pick l i 12).toNat 0).map λx=>[iD x]):=by intro z hz v' s' h;rw[List.range_succ,amp,amp,ak8,ak9,hz];exact h
 rcases aac with q|q|q|q|q|q|q|q|q|q|q|q;all_goals
  rw[q]at go ⊢;simp only[JT,F6,F7,simprocAttr,-FF,rJ,i64,h0,h1,h6,Int.toNat_zero,Int.toNat_one];refine⟨ae,?_⟩;refine kf.append aaJ rfl aF aF (by intro y hy;obtain⟨z,_,rfl⟩:=List.mem_map.1 hy;rfl) aq aq (by simp only[ak4,List.length_range,alg,alf];omega) (λv' s' Kh=>?_);simp only[JT,F6,F7,simprocAttr,-FF,rJ,i64,h0,h1,h6];refine⟨min l.length ai.toNat-(i+1),_,_,ae,bO.refl,i+1,rfl,ae,?_,?_,?_,?_⟩ <;> (try simp only[zU,Ft,qa,qe,Fp,reduceIte])
  ·exact h0
  ·exact h1
  ·rw[bK _ ae];rfl
  ·exact go _ rfl _ _ Kh
noncomputable def yf (p:fU) (t:List Int) (n:Nat) (fuel:Int) (i:Nat):Bool:=decide (iu p (t.take n) i (-1) fuel=0)
noncomputable def dC (p:fU) (t:List Int) (fuel:Int):Nat->fU×List Int
 |0=>(⟨.mk 0 [] [] 0 0 0 0 false,p.aj,false⟩,[])
 |n+1=>if (List.range (n+1)).all (yf p t n fuel)=true then (p,t.take n) else dC p t fuel n
theorem EX (f:Nat->Bool) (n:Nat):(List.range (n+1)).all f=((List.range n).all f&&f n):=by rw[List.range_succ,amm];simp
def xu (p:fU):List VL.Obj:=[⟨0,true,10,[[i64 0,.fu [],.fu [],i64 0,i64 0,i64 0,i64 0,bV false,i64 0,bV false]]⟩,⟨0,true,10,[p.re.cells.map V.d++[i64 p.aj,bV p.aM]]⟩]
theorem XT (l m:List Int) (hl:∀x∈l,jD x) (hm:∀x∈m,jD x) (dH ai fuel:Int) (h0:0<=ai) (h1:ai<=100) :
  aS prog 21 [.d (ar l),.d (ar m),i64 dH,i64 ai,i64 fuel]
   (.tu [bk (dC (mW l dH ai) (ki m 12) fuel ((ki m 12).length+1)).1,.d (ar (dC (mW l dH ai) (ki m 12) fuel ((ki m 12).length+1)).2)]):=by
 have aam:=NV l dH ai hl h0 ae;have htx:=WM m hm 12 ae;obtain⟨hv,gr⟩:=Bq l dH ai hl h0 h1;have YG:=HU l dH ai hl h0 h1;have Hk:(mW l dH ai).re.df=true:=Fj ae _ YG.ev;have VW:(ki m 12).length<=12:=by simp [ki];omega
 generalize mW l dH ai=p at *;generalize ki m 12=t at *;have bR:=λ(n i:Nat)=>Ro p (t.take n) i (-1) fuel Hk ae (by rw[alM];omega);generalize hR:dC p t fuel (t.length+1)=R;have hpc:=Re.ah p.re;simp only[bk,Re.ah p.re,ak8,ak9,ak5,ak6,i64,iD,bD,bV]at aam bR;simp only[i64]at htx;refine br func21 ntmps21 results21 0 654367 ?_;simp only[zX,simprocAttr,-FF,i64];refine dk aam ?_;simp only[zX,simprocAttr,-FF,i64];refine dk htx ?_;simp only[zI,simprocAttr,-FF,ar,ak4];refine ay (λN e s=>e 4=i64 fuel/\e 10=.rf 0 0 0 0/\e 12=.rf 1 0 0 0/\e 13=.d (ar t)/\e 14=i64 ((N:Int)-1)/\N<=t.length+1/\dC p t fuel N=R/\s=xu p)
  ⟨t.length+1,_,_,bO.refl,rfl,rfl,rfl,rfl,?_,ale _,hR,?_⟩ ?_
 ·show i64 _=i64 _;congr 1;omega
 ·unfold xu;rw[Re.ah];rfl
 clear aam htx hR;rintro N e s ⟨h4,ek,jk,mE,gP,hN,hR,rfl⟩;cases N with
 |zero =>
  unfold xu;rw[Re.ah];simp only[zI,simprocAttr,-FF,h4,ek,jk,mE,gP,bD,iD,alv,Int.zero_sub];subst hR;simp only[dC,bk,Re.cells];rfl
 |succ n =>
  have e14:((n+1:Nat):Int)-1=n:=ae;rw[e14]at gP;have fS:(0:Int)<=n:=ae;unfold xu;rw[Re.ah];simp only[zI,simprocAttr,-FF,h4,ek,jk,mE,gP,bD,iD,fS,ge_iff_le];refine ay (λM e s=>∃i:Nat,M=n+1-i/\i<=n+1/\e 4=i64 fuel/\e 10=.rf 0 0 0 0/\e 12=.rf 1 0 0 0/\e 13=.d (ar t)/\e 14=i64 n/\e 15=bV ((List.range i).all (yf p t n fuel))/\e 16=i64 i/\s=xu p)
   ⟨_,_,_,bO.refl,0,rfl,ae,?_,?_,?_,?_,?_,rfl,rfl,?_⟩ ?_ <;> (try simp only[zU,Ft,qa,qe,Fp,reduceIte])
  ·exact h4
  ·exact ek
  ·exact jk
  ·exact mE
  ·exact gP
  ·unfold xu;rw[Re.ah];rfl
  rintro M e s ⟨i,rfl,hi,h4,ek,jk,mE,gP,lJ,m9,rfl⟩;have bad:(List.range (n+1)).all (yf p t n fuel)=false->dC p t fuel n=R:=by intro h;rw[dC,h]at hR;exact hR
  by_cases kK:(i:Int)<=n
  ·cases hg:(List.range i).all (yf p t n fuel) with
   |false =>
    rw[hg]at lJ;unfold xu;rw[Re.ah];simp only[zI,simprocAttr,-FF,h4,ek,jk,mE,gP,lJ,m9,bD,iD,kK,bV];refine⟨n,_,_,ae,bO.refl,?_,?_,?_,?_,?_,ae,bad ?_,?_⟩ <;> (try simp only[zU,Ft,qa,qe,Fp,reduceIte])
    ·exact h4
    ·exact ek
    ·exact jk
    ·exact mE
    ·rw[bK _ ae]
    ·rw[alP]at hg ⊢;intro h;apply hg;rw[als]at h ⊢;exact λx hx=>h x (List.mem_range.2 (by have:=List.mem_range.1 hx;omega))
   |true =>
    rw[hg]at lJ;have GO:=bR n i;have xz:n<=t.length:=ae;unfold xu;rw[Re.ah];simp only[zI,simprocAttr,-FF,h4,ek,jk,mE,gP,lJ,m9,bD,iD,kK,bV];refine cP mix [] [] ?_;simp only[zI,simprocAttr,-FF,h4,ek,jk,mE,gP,lJ,m9,bD,iD,ar,ak4,fS,xz];refine⟨ae,?_⟩;have yO:List.take ((n:Int)-0).toNat (List.map (λx=>[D.sc (.int .i64 x)]) t)=(t.take n).map (λx=>[D.sc (.int .i64 x)]):=by rw[<- List.map_take];congr 2
    rw[yO];simp only[ar,iD]at GO;refine HD GO ?_;simp only[zI,simprocAttr,-FF,h4,ek,jk,mE,gP,lJ,m9,bD,iD,ar,ak4,fS,xz];refine⟨n+1-(i+1),_,_,ae,bO.refl,i+1,rfl,ae,?_,?_,?_,?_,?_,?_,?_,?_⟩ <;> (try simp only[zU,Ft,qa,qe,Fp,reduceIte])
    ·exact h4
    ·exact ek
    ·exact jk
    ·exact mE
    ·exact gP
    ·rw[EX,hg,al6];rfl
    ·rw[bK _ ae];rfl
  ·have eg:i=n+1:=by omega
   subst eg;cases hg:(List.range (n+1)).all (yf p t n fuel) with
   |false =>
    rw[hg]at lJ;unfold xu;rw[Re.ah];simp only[zI,simprocAttr,-FF,h4,ek,jk,mE,gP,lJ,m9,bD,iD,kK,bV];refine⟨n,_,_,ae,bO.refl,?_,?_,?_,?_,?_,ae,bad hg,?_⟩ <;> (try simp only[zU,Ft,qa,qe,Fp,reduceIte])
    ·exact h4
    ·exact ek
    ·exact jk
    ·exact mE
    ·rw[bK _ ae]
   |true =>
    rw[hg]at lJ;rw[dC,hg,be rfl]at hR;subst hR;unfold xu;rw[Re.ah];have xz:n<=t.length:=ae;simp only[zI,simprocAttr,-FF,h4,ek,jk,mE,gP,lJ,m9,bD,iD,kK,bV];refine cP mix [] [(0,[1],[]),(4,[0],[0])] ?_;simp only[zI,simprocAttr,-FF,h4,ek,jk,mE,gP,lJ,m9,bD,iD,ar,ak4,fS,xz];refine⟨ae,?_⟩;have yO:List.take ((n:Int)-0).toNat (List.map (λx=>[D.sc (.int .i64 x)]) t)=(t.take n).map (λx=>[D.sc (.int .i64 x)]):=by rw[<- List.map_take];congr 2
    rw[yO,bk,Re.ah];rfl
inductive bQ where
 |nil
 |root
 |el (re:Re)
def bQ.d (b a:Nat):bQ->D
 |.nil=>.sc (.pointer none)
 |.root=>.sc (.pointer (some ⟨b,a,none⟩))
 |.el re=>.el re.cells
inductive bt where
 |nil
 |mk (kind:Int) (re:bQ) (n at_:Int) (next:bt)
def bt.d (b a:Nat):bt->D
 |.nil=>.sc (.pointer none)
 |.mk kind re n at_ next=>.el [iD kind,re.d b a,iD n,iD at_,next.d b a]
theorem pj (b a:Nat) (r:bQ) (next:bt):aS prog 35 [.d (r.d b a),.d (next.d b a)] (.d ((bt.mk 0 r 0 0 next).d b a)):=by refine br func35 ntmps35 results35 0 19 ?_;simp only[zX,simprocAttr,bt.d,iD]
structure aB where
 at_:Int
 aj:aC
 todo:bt
def aB.cells (b a:Nat) (p:aB):List D:=[iD p.at_,bS p.aj,p.todo.d b a]
def aB.zero:aB:=⟨0,[],.nil⟩
def Pg (b a:Nat):Option aB->List V
 |some p=>(p.cells b a).map V.d
 |none=>[.d (.sc (.int .i64 0)),.fu [],.d (.sc (.pointer none))]
structure aP where
 p:fU
 t:List Int
 dS:Bool
 own:List Int
 nU:Nat
 iq:List (Option aB)
 top:Nat
 gen:Nat
 cS:Int
 start:Int
 steps:Int
 fuel:Int
 cz:Bool
 ready:Bool
def aP.text (m:aP):V:=if m.dS=true then .so 2 m.nU 0 m.t.length else .d (ar m.t)
def aP.aQ (g b a:Nat) (m:aP) (T:V):List VL.Obj :=
 [⟨g,true,19,[[.d (iD m.p.re.op),.d (.sl (m.p.re.set.map aU)),.d (.sl (m.p.re.kids.map Re.cells)),.d (iD m.p.re.mn),.d (iD m.p.re.mx),.d (iD m.p.re.mode),.d (iD m.p.re.n),.d (bD m.p.re.neg),i64 m.p.aj,bV m.p.aM,T,.so 2 m.nU 0 m.own.length,.so 1 m.gen 0 m.top,i64 m.cS,i64 m.start,i64 m.steps,i64 m.fuel,bV m.cz,bV m.ready]]⟩,
  ⟨m.gen,true,3,m.iq.map (Pg b a)⟩,⟨m.nU,true,1,m.own.map λx=>[.d (iD x)]⟩]
def aP.bw (g b a:Nat) (m:aP):List VL.Obj:=m.aQ g b a m.text
theorem IU {g b a:Nat}{m:aP} (h:m.dS=false):m.bw g b a=m.aQ g b a (.d (ar m.t)):=by unfold aP.bw aP.text;rw[ap (by rw[h];exact alJ)]
theorem I8 {g b a:Nat}{m:aP} (h:m.dS=true):m.bw g b a=m.aQ g b a (.so 2 m.nU 0 m.t.length):=by unfold aP.bw aP.text;rw[be h]
def aP.step (m:aP):aP:=if m.steps<m.fuel then { m with steps:=m.steps+1 } else { m with cz:=true }
theorem ze (l:List (Option aB)) (b a n:Nat):((l.map (Pg b a)).all λe=>e.all (ak n))=true:=by rw[als];intro e he;obtain⟨p,_,rfl⟩:=List.mem_map.1 he;cases p <;> rfl
theorem yB (m:aP):ak 3 m.text=true:=by unfold aP.text;split <;> rfl
theorem ke (m:aP) (b a:Nat) (T:V) (h:ak 3 T=true):(ak 3 T&&(((m.iq.map (Pg b a)).all λe=>e.all (ak 3))&&(m.own.map λx=>[V.d (D.sc (.int .i64 x))]).all λe=>e.all (ak 3)))=true:=by rw[h,ze];exact rb m.own iD 3
theorem rn (g b a:Nat) (m:aP) (T:V) (n:Nat) (hn:3<=n) (h:ak n T=true):(m.aQ g b a T).all (aY n)=true:=by unfold aP.aQ;simp only[alR,alW,alp,aY,ak5,ak6,ak8,ak9,h,i64,bV,ze,iD,bD,rb];simp [ak];omega
theorem aG (m:aP) (b a:Nat):(ak 3 m.text&&(((m.iq.map (Pg b a)).all λe=>e.all (ak 3))&&(m.own.map λx=>[V.d (D.sc (.int .i64 x))]).all λe=>e.all (ak 3)))=true:=by rw[yB,ze];exact rb m.own iD 3
theorem Mg (g b a:Nat) (m:aP) (h0:0<=m.steps) (h1:m.steps<=10000000000000) :
  av prog 121 [.pp 0 g 0 0 b a] (m.bw g b a) λv s=>v=bV (decide (m.steps<m.fuel))/\s=m.step.bw g b a:=by
 have w1:IntKind.i64.wrap (m.steps+1)=m.steps+1:=bK _ ae;unfold aP.bw aP.aQ;generalize hT:m.text=T;by_cases c:m.steps<m.fuel
 ·have gE:¬m.fuel<=m.steps:=by omega
  have hs:m.step={ m with steps:=m.steps+1 }:=by rw[aP.step,be c]
  exact Zbx
 ·have gE:m.fuel<=m.steps:=by omega
  have hs:m.step={ m with cz:=true }:=by rw[aP.step,ap c]
  exact Zbx
abbrev Rs:=aP×aB×Bool
def aP.lit (m:aP):bQ->Option Re
 |.nil=>none
 |.root=>some m.p.re
 |.el re=>some re
def aP.push (m:aP) (p:aB):aP:={ m with iq:=m.iq.take m.top++[some p],top:=m.top+1,gen:=m.gen+1,cS:=max m.cS ((m.top+1:Nat):Int) }
def aP.clear (m:aP) (base:Nat):aP:={ m with iq:=m.iq.take base++(List.replicate (m.top-base) none++m.iq.drop m.top),top:=base }
def aP.pop (m:aP):aP:={ m with iq:=m.iq.set (m.top-1) none,top:=m.top-1 }
def sq (p:aB) (kind:Int) (re:bQ) (n at_:Int):aB:={ p with todo:=.mk kind re n at_ p.todo }
def aB.goals (p:aB):Bool:=match p.todo with
 |.nil=>false
 |.mk _ _ _ _ _=>true
def mP (kids:List Re) (next:bt):bt:=kids.foldr (λk nx=>.mk 0 (.el k) 0 0 nx) next
def aP.same (m:aP):Prop:=m.dS=true->m.own=m.t
instance (m:aP):Decidable m.same:=by unfold aP.same;infer_instance
def EZ (t:List Int) (re:Re) (p:aB):aB×Bool :=
 if p.at_<t.length/\yP re.set (lK t p.at_)=true then ({ p with at_:=p.at_+1 },true) else (.zero,false)
def Of (t:List Int) (re:Re) (p:aB):Option (aB×Bool) :=
 if re.n<1\/(p.aj.length:Int)<re.n then none else
 let x:=p.aj.getD (re.n-1).toNat (-1,-1)
 if x.1 < -1000000\/x.2 < -1000000\/1000000<x.1\/1000000<x.2 then none
 else if x.1<0\/(t.length:Int)-p.at_<x.2-x.1 then some (.zero,false)
 else if x.2<x.1\/(t.length:Int)<x.2 then none
 else if jv t x.1 p.at_ (x.2-x.1).toNat=true then some ({ p with at_:=p.at_+(x.2-x.1) },true) else some (.zero,false)
abbrev Rec:=aP->Nat->aB->Option Rs
def ja (rec:Rec) (m:aP) (p:aB):Option Rs:=match rec m m.top p with
 |none=>none
 |some (m',p',found)=>if m'.top<m.top\/m'.iq.length<m'.top then none else some (m'.clear m.top,p',found)
def my (rec:Rec) (m:aP) (p:aB) (part:bt):Option Rs:=match ja rec m { p with todo:=part } with
 |none=>none
 |some (m',r,found)=>some (m',{ r with todo:=p.todo },found)
def mM (f:Int->aP->Option Rs) (neg:Bool) (p:aB) (last:Int):Nat->aP->Option Rs
 |0,m=>some (m,p,neg&&!m.cz)
 |j+1,m=>if m.cz=true then some (m,p,neg&&!m.cz) else match f (last+j) m with
  |none=>none
  |some (m',r,found)=>if found=true then (if neg=true then some (m',.zero,false) else some (m',{ p with aj:=r.aj },true)) else mM f neg p last j m'
def rR (op:Int) (aJ:Re) (at_:Int):bt:=if op=8 then .mk 0 (.el aJ) 0 0 (.mk 5 .nil 0 at_ .nil) else .mk 0 (.el aJ) 0 0 .nil
def qq (rec:Rec) (m:aP) (re:Re) (aJ:Re) (p:aB):Option Rs :=
 mM (λk m=>ja rec m { at_:=k,aj:=p.aj,todo:=rR re.op aJ p.at_ }) re.neg p (if re.op=8 then 0 else p.at_) (if re.op=8 then p.at_.toNat+1 else 1) m
def kS (rec:Rec) (m:aP) (r:bQ) (p:aB):Option Rs:=match m.lit r with
 |none=>none
 |some re =>
  if 1000000000<re.set.length\/1000000000<re.kids.length then none
  else if re.op=4 then (if re.mode=2 then my rec m p (.mk 2 r 0 0 .nil) else some (m,sq p 2 r 0 0,true))
  else if m.fuel<=m.steps then some (m.step,.zero,false)
  else
   let m:=m.step
   if re.op=1 then some (m,EZ m.t re p)
   else if re.op=2 then some (m,{ p with todo:=mP re.kids p.todo },true)
   else if re.op=3 then some (m,sq p 1 r 0 0,true)
   else if re.op=5 then match re.kids with
    |[]=>none
    |aJ::_=>some (m,sq (sq p 4 r 0 p.at_) 0 (.el aJ) 0 0,true)
   else if re.op=6 then match Of m.t re p with
    |none=>none
    |some x=>some (m,x)
   else if re.op=7\/re.op=8 then match re.kids with
    |[]=>none
    |aJ::_=>qq rec m re aJ p
   else if re.op=9 then match re.kids with
    |[]=>none
    |aJ::_=>my rec m p (.mk 0 (.el aJ) 0 0 .nil)
   else if re.op=10 then match re.kids with
    |yes::no::_=>if re.n<1\/(p.aj.length:Int)<re.n then none else some (m,sq p 0 (.el (if 0<=(p.aj.getD (re.n-1).toNat (-1,-1)).1 then yes else no)) 0 0,true)
    |_=>none
   else if re.op=11 then (if re.n<0\/5<re.n then none else some (m,p,bY re.n m.t p.at_))
   else some (m,p,true)
def sE (m:aP) (r:bQ) (n:Int) (p:aB):Option Rs:=match m.lit r with
 |none=>none
 |some re=>match re.kids with
  |[]=>none
  |aJ::_ =>
   if m.fuel<=m.steps then some (m.step,.zero,false)
   else
    let m:=m.step
    if n<re.mn then some (m,{ p with todo:=.mk 0 (.el aJ) 0 0 (.mk 2 r (n+1) 0 p.todo) },true)
    else if 0<=re.mx/\re.mx<=n then some (m,p,true)
    else
     let more:aB:={ p with todo:=.mk 0 (.el aJ) 0 0 (.mk 3 r (n+1) p.at_ p.todo) }
     if re.mode=1 then some (m.push more,p,true) else some (m.push p,more,true)
def aP.gF (m:aP) (p:aB):Prop:=(0<=m.steps/\m.steps<=10000000000000/\m.top<=m.iq.length/\m.top<=1200000000000)/\(0<=p.at_/\p.at_<=m.t.length/\p.aj.length<=1000000000)/\m.t.length<=1000000/\m.same
instance (m:aP) (p:aB):Decidable (m.gF p):=by unfold aP.gF;infer_instance
def vf (rec:Rec) (m:aP) (p:aB):Option Rs :=
 if ¬m.gF p then none else match p.todo with
 |.nil=>none
 |.mk kind r n at_ next =>
  let p:={ p with todo:=next }
  if kind=0 then kS rec m r p
  else if n<0\/10000000000000<n then none
  else if kind=1 then match m.lit r with
   |none=>none
   |some re=>if 1000000000<re.kids.length then none else match re.kids[n.toNat]? with
    |none=>none
    |some aJ=>some (if n+1<re.kids.length then m.push (sq p 1 r (n+1) 0) else m,sq p 0 (.el aJ) 0 0,true)
  else if kind=2 then sE m r n p
  else if kind=3 then (if p.at_=at_ then some (m,.zero,false) else some (m,sq p 2 r n 0,true))
  else if kind=4 then match m.lit r with
   |none=>none
   |some re=>if re.n<1\/(p.aj.length:Int)<re.n then none else some (m,{ p with aj:=p.aj.set (re.n-1).toNat (at_,p.at_) },true)
  else if kind=5 then some (m,p,decide (p.at_=at_))
  else none
def cL:Nat->Bool->aP->Nat->aB->Bool->Option Rs
 |0,_,_,_,_,_=>none
 |k+1,out,m,base,p,alive =>
  if out=true/\m.cz=true then some (m,.zero,false)
  else if alive=true/\p.goals=true then match vf (λm base p=>cL k true m base p true) m p with
   |none=>none
   |some (m',p',ZX)=>cL k false m' base p' ZX
  else if alive=true then some (m,p,!m.cz)
  else if m.top=base then some (m,.zero,false)
  else if m.top=0\/m.iq.length<m.top\/1200000000000<m.top then none
  else match m.iq[m.top-1]? with
   |none=>none
   |some none=>none
   |some (some last)=>cL k true m.pop base last true
theorem ML (x:Int):aS prog 100 [i64 x] (bV (tQ x)):=by
 refine br func100 ntmps100 results100 0 5 ?_;exact ZaO
theorem Ij (n:Int) (t:List Int) (i:Int) (fS:0<=n) (xz:n<=5) (ht:t.length<=1000000) (h0:0<=i) (h1:i<=t.length):aS prog 68 [i64 n,.d (ar t),i64 i] (bV (bY n t i)):=by
 have w1:IntKind.i64.wrap (i-1)=i-1:=bK _ ae;have hw:=ML (lK t (i-1));have Y2:=ML (lK t i);simp only[i64,bV]at hw Y2;have u1:¬i<0:=ae;have u2:¬(t.length:Int)<i:=ae;have hg1:0<i->t[(i-1).toNat]?=some (lK t (i-1)):=λh=>nK ae ae;have hg2:i<t.length->t[i.toNat]?=some (lK t i):=λh=>nK h0 h;have mV:n=0\/n=1\/n=2\/n=3\/n=4\/n=5:=ae;rcases mV with rfl|rfl|rfl|rfl|rfl|rfl
 ·exact Zcn
 ·exact Zcn
 ·by_cases c:i=0
  ·exact ZbX
  ·have b1:0<=i-1:=by omega
   have b2:i-1<(t.length:Int):=ae;have g1:=hg1 ae;refine br func68 ntmps68 results68 0 9007199254872519 ?_;simp only[zI,simprocAttr,iD,ar,u1,u2,gt_iff_lt,c,w1,b1,b2,g1];simp [bY,bV,c]
 ·by_cases c:i=(t.length:Int)
  ·exact ZbX
  ·have b2:i<(t.length:Int):=by omega
   have g2:=hg2 b2;refine br func68 ntmps68 results68 0 9007199254872519 ?_;simp only[zI,simprocAttr,iD,ar,u1,u2,gt_iff_lt,c,h0,b2,g2];simp [bY,bV,c]
 all_goals
  by_cases c1:0<i
  ·have b1:0<=i-1:=by omega
   have b2:i-1<(t.length:Int):=ae;have g1:=hg1 c1;by_cases c2:i<(t.length:Int)
   ·have g2:=hg2 c2;refine br func68 ntmps68 results68 0 9007199254872519 ?_;simp only[zI,simprocAttr,iD,ar,u1,u2,gt_iff_lt,c1,c2,w1,b1,b2,g1,g2,h0];refine dk hw ?_;simp only[zI,simprocAttr,iD,ar,u1,u2,gt_iff_lt,c1,c2,w1,b1,b2,g1,g2,h0];refine dk Y2 ?_;simp only[zI,simprocAttr,iD,ar,u1,u2,gt_iff_lt,c1,c2,w1,b1,b2,g1,g2,h0];simp [bY,bV,qo,mf,c1,c2] <;> (cases tQ (lK t (i-1)) <;> cases tQ (lK t i) <;> rfl)
   ·refine br func68 ntmps68 results68 0 9007199254872519 ?_;simp only[zI,simprocAttr,iD,ar,u1,u2,gt_iff_lt,c1,c2,w1,b1,b2,g1,h0];refine dk hw ?_;simp only[zI,simprocAttr,iD,ar,u1,u2,gt_iff_lt,c1,c2,w1,b1,b2,g1,h0];simp [bY,bV,qo,mf,c1,c2]
  ·by_cases c2:i<(t.length:Int)
   ·have g2:=hg2 c2;refine br func68 ntmps68 results68 0 9007199254872519 ?_;simp only[zI,simprocAttr,iD,ar,u1,u2,gt_iff_lt,c1,c2,g2,h0];refine dk Y2 ?_;simp only[zI,simprocAttr,iD,ar,u1,u2,gt_iff_lt,c1,c2,g2,h0];simp [bY,bV,qo,mf,c1,c2]
   ·refine br func68 ntmps68 results68 0 9007199254872519 ?_;simp only[zI,simprocAttr,iD,ar,u1,u2,gt_iff_lt,c1,c2,h0];simp [bY,bV,qo,mf,c1,c2]
theorem DY (t:List Int) (root parts:D) (bg nb:Nat) (Bs:List (List Bool)) (b a:Nat) (re:Re) (k:Nat) (i:Int) (h0:0<=i) (fB:re.set.length<=1000000) (ht:t.length<=1000000) :
  av Tryz.prog 65 [i64 i,.bx (.pp 0 0 0 0 b a),.bx (.d (re.bA k))] [dV t root parts bg nb,fW bg Bs] λv s=>v=bV (decide (i<t.length)&&yP re.set (lK t i))/\s=[dV t root parts bg nb,fW bg Bs]:=by
 have hh:=WD re.set (lK t i) ae;have hb:=hU 2 bg Bs;rw[Re.eL];by_cases aE:i<(t.length:Int)
 ·have hn:i.toNat<t.length:=by omega
  have hg:t[i.toNat]?=some (lK t i):=by unfold lK;rw[List.getD_eq_getElem?_getD,List.getElem?_eq_getElem hn];rfl
  refine br Tryz.func65 Tryz.ntmps65 Tryz.results65 2 23 ?_;simp only[zQ,simprocAttr];refine cP mix [] [(2,[0],[]),(3,[0],[]),(4,[0],[]),(14,[0],[]),(15,[0],[]),(16,[0],[])] ?_;simp only[zQ,simprocAttr,cA,aV,dV,ar,ak4,aE,h0,hn,hg,List.getElem?_map,ala];refine HD hh ?_;simp only[zQ,simprocAttr,cA,aV,dV,ar,ak4,aE,h0,hn,hg,List.getElem?_map,ala,hb]
 ·refine br Tryz.func65 Tryz.ntmps65 Tryz.results65 2 23 ?_;simp only[zQ,simprocAttr];refine cP mix [] [(2,[0],[]),(3,[0],[]),(4,[0],[]),(14,[0],[]),(15,[0],[]),(16,[0],[])] ?_;simp only[zQ,simprocAttr,cA,aV,dV,ar,ak4,aE,h0,hb];rfl
theorem xJ (t:List Int) (root parts:D) (bg nb:Nat) (Bs:List (List Bool)) (b a:Nat) (re:Re) (k:Nat) (i:Int) (h0:0<=i) (h1:i<=t.length) (fS:0<=re.n) (xz:re.n<=5) (ht:t.length<=1000000) :
  av Tryz.prog 67 [i64 i,.bx (.d (re.bA k)),.bx (.pp 0 0 0 0 b a)] [dV t root parts bg nb,fW bg Bs] λv s=>v=bV (bY re.n t i)/\s=[dV t root parts bg nb,fW bg Bs]:=by
 have hh:=Ij re.n t i fS xz ht h0 h1;have hb:=hU 2 bg Bs;rw[Re.eL];refine br Tryz.func67 Tryz.ntmps67 Tryz.results67 2 23 ?_;simp only[zQ,simprocAttr];refine cP mix [] [(6,[0],[]),(7,[0],[]),(8,[0],[])] ?_;simp only[zQ,simprocAttr,cA,aV,dV,ar];refine HD hh ?_;simp only[zQ,simprocAttr,cA,aV,dV,ar,hb]
theorem BI (t:List Int) (root parts:D) (bg nb:Nat) (Bs:List (List Bool)) (b a:Nat) (re:Re) (k:Nat) (i:Nat) (oK:nb=Bs.length) {l:List Bool}{y:Bool} (hl:Bs[k]?=some l) (hy:l[i]?=some y) :
  av Tryz.prog 69 [i64 i,.bx (.pp 0 0 0 0 b a),.bx (.d (re.bA k))] [dV t root parts bg nb,fW bg Bs] λv s=>v=bV y/\s=[dV t root parts bg nb,fW bg Bs]:=by
 have hb:((Bs.map λl=>[V.d (D.sl (l.map λb=>[D.sc (Value.bool b)]))]).all λe=>e.all (ak 2))=true:=hU 2 bg Bs;have hk:k<Bs.length:=(List.getElem?_eq_some_iff.1 hl).1;have hi:i<l.length:=(List.getElem?_eq_some_iff.1 hy).1;have c1:(k:Int)<(Bs.length:Int):=ae;have c2:(i:Int)<(l.length:Int):=ae;have c3:(0:Int)<=(k:Int):=ae;have c4:(0:Int)<=(i:Int):=ae;rw[Re.eL];subst oK;refine br Tryz.func69 Tryz.ntmps69 Tryz.results69 2 23 ?_;simp only[zQ,simprocAttr];refine cP mix [] [(1,[0],[]),(2,[0],[]),(3,[0],[]),(8,[1],[]),(9,[1],[])] ?_;simp only[zQ,simprocAttr,cA,aV,dV,fW,ar,c1,c2,c3,c4,hk,hi,ak7,ak4,List.getElem?_map,hl,hy,ala,alc];exact hb
end Go.Proofs.YtjjfioalgbecmaaGreat
namespace Go.VL
open Go.RowKit
variable{B:Nat}{w:World}
structure Tw (B:Nat) (w w':World):Prop where
 os:w'.os=w.os
 tape:w'.tape=w.tape
 output:w'.output=w.output
 size:w.heap.size<=w'.heap.size
 same:∀(b:Nat) (o:Go.Obj),w.heap[b]?=some o->AS o=false->w'.heap[b]?=some o
 low:∀b,b<B->b<w.heap.size->w'.heap[b]?=w.heap[b]?
theorem Tw.trans{w' RL:World} (h:Tw B w w') (k:Tw B w' RL):Tw B w RL :=
 ⟨k.os.trans h.os,k.tape.trans h.tape,k.output.trans h.output,al7 h.size k.size,λb o ho hb=>k.same b o (h.same b o ho hb) hb,
  λb h1 h2=>(k.low b h1 (amr h2 h.size)).trans (h.low b h1 h2)⟩
theorem Tw.alloc (w:World) (o:Go.Obj):Tw B w (w.alloc o) :=
 ⟨rfl,rfl,rfl,aq,λb o' h _=>(Below.heap_alloc w o b (eo h)).trans h,λb _ h=>Below.heap_alloc w o b h⟩
theorem Tw.put{r:Nat}{o:Go.Obj} (o':Go.Obj) (h:w.heap[r]?=some o) (ho:AS o=true) (hB:B<=r):Tw B w (w.putObj r o') :=
 ⟨rfl,rfl,rfl,aq,λb o2 hb h2=>by
  by_cases e:b=r
  ·subst e;rw[h]at hb;cases hb;rw[ho]at h2;cases h2
  ·exact(World.putObj_heap_other e).trans hb,
  λb h1 _=>World.putObj_heap_other ae⟩
variable {B:Nat}{w w':World}
variable{u:Value}{σ:Gh}{s:List Obj}
theorem Tw.cell (h:Tw B w w') {a:Addr} (hc:w.cell? a=some u):w'.cell? a=some u:=by obtain⟨o,ho,nf⟩:=cells_of_cell hc;have:w'.heap[a.block]?=w.heap[a.block]?:=(h.same _ o ho (by cases o <;> simp_all [Obj.isCells,AS])).trans ho.symm;rw[World.cell?_of_block this];exact hc
theorem di.tw {O:Nat->Prop} (h:Tw B w w') {x:D} (hr:di O w x u):di O w' x u:=by
 induction hr with
 |sc v hv=>exact .sc v hv
 |nil=>exact .nil
 |sl aA a cap sz f h1 h2 h3 h4 _ ih=>exact .sl aA a cap sz f h1 h2 h3 (λi j x hx=>⟨h.cell (h4 i j x hx).1,(h4 i j x hx).2⟩) ih
 |el cs a f h1 h2 _ ih=>exact .el cs a f h1 (λj x hx=>⟨h.cell (h2 j x hx).1,(h2 j x hx).2⟩) ih
 |cl h1 _ h3 _ As mN=>exact .cl h1 As h3 mN
 |ub b=>exact .ub b
theorem IA.tw (h:Tw B w w') {b:Nat} (hc:IA w b):IA w' b:=by obtain⟨arr,E,hh⟩:=hc;exact⟨arr,E,h.same _ _ hh rfl⟩
theorem Ss.tw (h:Tw B w w') {b:Nat} (hc:Ss w b):Ss w' b:=by obtain⟨es,c,hh⟩:=hc;exact⟨es,c,h.same _ _ hh rfl⟩
theorem AK.tw (h:Tw B w w') {id:Nat}{o:Obj}{lo n:Nat} (hk:AK σ w id o lo n u):AK σ w' id o lo n u:=by
 rcases hk with h1|⟨b,base,cap,E,arr,h1,h2,h3⟩
 ·exact .inl h1
 ·exact .inr ⟨b,base,cap,E,arr,h1,h.same _ _ h2 rfl,h3⟩
theorem aD.tw (h:Tw B w w') {x:V} (hr:aD σ s w x u):aD σ s w' x u:=by
 induction hr with
 |d hx=>exact .d (hx.tw h)
 |ag h1 h2 _ ih=>exact .ag h1 h2 ih
 |tu h1 _ ih=>exact .tu h1 ih
 |fu hx=>exact .fu (hx.tw h)
 |so o ho hg hu hk=>exact .so o ho hg hu λhe=>(hk he).tw h
 |rf o ho hg hu hk =>
  refine .rf o ho hg hu λhe=>?_;obtain⟨b,base,k1,kc,k2⟩:=hk he;exact⟨b,base,k1,kc.tw h,k2⟩
 |pp o ho hg hk =>
  refine .pp o ho hg λhe=>?_;obtain⟨base,k1,kc,k2⟩:=hk he;exact⟨base,k1,kc.tw h,k2⟩
 |mp o ho hg hu hk =>
  refine .mp o ho hg hu λhe=>?_;obtain⟨b,k1,kc,k2⟩:=hk he;exact⟨b,k1,kc.tw h,k2⟩
 |cap h1 _ ih=>exact .cap h1 ih
 |bx h1 h2 h3 hu _ ih=>exact .bx h1 (h.cell h2) h3 hu ih
 |cl h1 _ h3 _ As mN=>exact .cl h1 As h3 mN
 |un=>exact .un
 |any=>exact .any
theorem Inv.tw (h:Tw B w w') (hI:Inv σ s w):Inv σ s w':=by
 refine⟨λid o ho=>?_,hI.inj,λb hb=>amr (hI.low b hb) h.size,hI.apart⟩;rcases hI.content id o ho with h0|⟨b,base,arr,E,h1,h2,h3,h4,h5⟩
 ·refine .inl ?_;rcases h0 with h0|⟨b,es,c,h1,h2,h3⟩
  ·exact .inl h0
  ·exact .inr ⟨b,es,c,h1,h.same _ _ h2 rfl,h3⟩
 ·refine .inr ⟨b,base,arr,E,h1,h.same _ _ h2 rfl,h3,h4,λi j x hx=>?_⟩;obtain⟨u,k1,k2,k3⟩:=h5 i j x hx;exact⟨u,k1,k2,k3.tw h⟩
theorem eE.tw{N:Nat}{e:Nat->V}{a:Act} (h:Tw B w w') (hR:eE σ s w N e a):eE σ s w' N e a :=
 ⟨hR.1,hR.2.1,λt=>(hR.2.2 t).tw h⟩
theorem aK.tw {σ0:Gh}{s0:List Obj}{w0:World} (h:Tw B w w') (hB:w0.heap.size<=B) (hE:aK σ0 s0 w0 σ s w):aK σ0 s0 w0 σ s w':=by
 refine⟨h.os.trans hE.os,h.tape.trans hE.tape,h.output.trans hE.output,al7 hE.size h.size,λb hb ho=>?_,λb arr E ho hh=>?_,λb ho hm=>(hE.qY b ho hm).tw h,hE.own,hE.bw,hE.base,λb hb hf=>?_⟩
 ·exact(h.low b ae (amr hb hE.size)).trans (hE.bp b hb ho)
 ·obtain⟨cN,h1,h2⟩:=hE.shape b arr E ho hh;exact⟨cN,h.same _ _ h1 rfl,h2⟩
 ·exact(h.low b ae (amr hb hE.size)).trans (hE.gk b hb hf)
open Go.RowKit
theorem aK.both {σ σ':Gh}{s s':List Obj}{w w':World} (h:aK σ s w σ' s' w') {l:Nat}{o:Go.Obj} (ho:AS o=true) (h1:l<w.heap.size) (h2:l<w'.heap.size):aK σ s (w.putObj l o) σ' s' (w'.putObj l o):=by
 have key:∀b,(b≠l->w'.heap[b]?=w.heap[b]?)->(w'.putObj l o).heap[b]?=(w.putObj l o).heap[b]?:=λb hb=>by
  by_cases e:b=l
  ·subst e;rw[World.putObj_heap_same h1,World.putObj_heap_same h2]
  ·rw[World.putObj_heap_other e,World.putObj_heap_other e];exact hb e
 refine⟨h.os,h.tape,h.output,by simpa using h.size,λb hb hO=>key b λ_=>h.bp b (by simpa using hb) hO,λb arr E hO hh=>?_,λb hO hm=>?_,λb hb=>by simpa using h.own b hb,h.bw,h.base,λb hb hf=>key b λ_=>h.gk b (by simpa using hb) hf⟩
 ·by_cases e:b=l
  ·subst e;rw[World.putObj_heap_same h1]at hh;cases hh;cases ho
  ·rw[World.putObj_heap_other e]at hh ⊢;exact h.shape b arr E hO hh
 ·by_cases e:b=l
  ·subst e;obtain⟨es,c,hh⟩:=hm;rw[World.putObj_heap_same h1]at hh;cases hh;cases ho
  ·obtain⟨es,c,hh⟩:=hm;rw[World.putObj_heap_other e]at hh;obtain⟨es',c',Zn⟩:=h.qY b hO ⟨es,c,hh⟩;exact⟨es',c',by rw[World.putObj_heap_other e];exact Zn⟩
def Js (P:Program) (gf:Nat) (pF:List D) (FN:Nat) (v:Nat->Int):Prop :=
 (∀args w,(callFunc gf args).run P w=.ok (.enter gf args) w) /\
 ∀(lb:Array Value) (l:Nat) (J:Nat->World->Prop),lb.size=pF.length->(∀i W,J i W->∀j x,pF[j]?=some x->di (λ_=>False) W x (lb.getD j undef)) ->
  (∀i W,J i W->i<FN->YieldAt (G7 none) 0 P l #[.int .i64 (v i)] W λe W'=>e=.returned (.bool true)/\J (i+1) W') ->
  ∀W,J 0 W->CallsIn (G7 none) 0 P gf (#[.func (.yield l) #[] #[]]++lb) W λe W'=>(∃u,e=.returned u)/\J FN W'
theorem Lo {P:Program}{N L M:Nat}{σ0:Gh}{s0:List Obj}{w0:World} (hL:s0.length<=L) {tf p:Nat}{assign body:Code}{gf:Nat}{pF:List D}{FN:Nat}{v:Nat->Int} (Qv:Js P gf pF FN v) (I:Nat->List Obj->Prop)
  {e:Env}{s:List Obj}{σ:Gh}{w:World}{a:Act} (hE:aK σ0 s0 w0 σ s w) (hI:Inv σ s w) (hR:eE σ s w N e a) (hg:e tf=.d (.cl (.func gf) [] pF)) (hp:p<N) (h0:I 0 s)
  (hround:∀i s,i<FN->I i s->codeWp P N s.length M (.seq assign body) (λex _ s'=>ex=.normal/\∃Cx,bO L e s' e Cx/\I (i+1) Cx) (ca e p (.d (.sc (.int .i64 (v i))))) s)
  {Q:Exit->Act->World->Prop} (hQ:∀(D:Nat) (w':World) (σ':Gh) (s':List Obj),w0.heap.size<=D->w'.heap[D]?=some (.deferred (some []))->aK σ0 s0 w0 σ' s' w'->Inv σ' s' w'->eE σ' s' w' N e a->I FN s' ->
   Q .normal (Act.wD a [{ target:=.collected D,args:=#[] }]) w') :
  (Code.rangeFunc (.tmp tf) #[p] assign body).wpIn (G7 none) 0 P Q a w:=by
 have cQ:∀{σ:Gh}{s:List Obj}{w:World},eE σ s w N e a->∃lb:Array Value,a.eval (.tmp tf)=.func (.func gf) #[] lb/\lb.size=pF.length/\∀j x,pF[j]?=some x->di (λ_=>False) w x (lb.getD j undef):=by
  intro σ s w hR;have h:=hR.2.2 tf;rw[hg]at h;show ∃lb,a.tmps.getD tf undef=_/\_;generalize a.tmps.getD tf undef=u at h;cases h with|d h=>?_
  cases h with|@cl _ _ _ f' c' h1 h2 h3 h4=>?_
  have:f'=#[]:=Array.eq_empty_of_size_eq_zero (by simpa using h1);subst this;exact⟨c',rfl,h3,λj x hx=>(h4 j x hx).own λ_ hf=>hf.elim⟩
 obtain⟨lb,JO,afM,_⟩:=cQ hR;refine wpIn_rangeFunc ?_;intro fn hfn;obtain⟨rec,eH⟩:∃rec:LoopState->Option Code->Loop,rec=λst pe=>{ state:=st,pending:=pe,fn,tmps:=a.tmps,params:=#[p],assign,body,defers:=w.heap.size }:=⟨_,rfl⟩
 obtain⟨W1,hW1⟩:∃W1,(w.alloc (.deferred (some []))).alloc (.loop (rec .ready none))=W1:=⟨_,rfl⟩
 have hL1:W1.heap[w.heap.size+1]?=some (.loop (rec .ready none)):=by rw[<- hW1];have:=World.alloc_heap_new (w.alloc (.deferred (some []))) (.loop (rec .ready none));rwa [World.size_alloc]at this
 have XU:W1.heap[w.heap.size]?=some (.deferred (some [])):=by rw[<- hW1];exact(Below.heap_alloc _ _ _ aq).trans (World.alloc_heap_new w _)
 have hT1:Tw w0.heap.size w W1:=by rw[<- hW1];exact(Tw.alloc _ _).trans (Tw.alloc _ _)
 have gr:=hE.size;refine⟨w.heap.size+1,[{ target:=.collected w.heap.size,args:=#[] }],W1,{ target:=.fn (.func gf) lb,args:=#[.func (.yield (w.heap.size+1)) #[] #[]] },W1,gf,
  #[.func (.yield (w.heap.size+1)) #[] #[]]++lb,W1,?_,?_,?_,?_,λh=>by simp [G7,Fence.wide]at h,?_⟩
 ·rw[<- hW1,eH];exact run_enterLoop_outer _ _ _ _ _
 ·simp only[resolve,JO];simp [go_sem]
 ·intro f' hf';exact trivial
 ·simp [invoke,go_sem,Qv.1]
 refine((Qv.2 lb (w.heap.size+1) (λi W=>∃σ s,aK σ0 s0 w0 σ s W/\Inv σ s W/\eE σ s W N e a/\I i s/\W.heap[w.heap.size+1]?=some (.loop (rec .ready none))/\W.heap[w.heap.size]?=some (.deferred (some []))) afM
  (λi W ⟨σ,s,_,_,hR,_⟩=>by
   obtain⟨lb',h1,_,h3⟩:=cQ hR;rw[JO]at h1;cases h1;exact h3) ?_ W1 ⟨σ,s,hE.tw hT1 (ale _),hI.tw hT1,hR.tw hT1,h0,hL1,XU⟩)).mono ?_
 ·
  rintro i W ⟨σ1,s1,PE,V2,VQ,hi,hl,hk⟩ aE;have hy:=run_yield (P:=P) (args:=#[.int .i64 (v i)]) hl (by rw[eH];rfl);have hwl:w.heap.size+1<W.heap.size:=eo hl;have hbz:AS (.loop { rec .ready none with state:=.busy })=true:=rfl;have rk:rec .ready none={ state:=.ready,pending:=none,fn,tmps:=a.tmps,params:=#[p],assign,body,defers:=w.heap.size }:=by rw[eH]
  rw[eH]at hy;refine⟨fn,_,assign,body,hy,roundIn_of_wpIn hfn ?_⟩;have hd:=hround i s1 aE hi;have hR2:eE σ1 s1 W N (ca e p (.d (.sc (.int .i64 (v i))))) (a.put (some p) (.int .i64 (v i))):=eE.put VQ (d:=some p) hp (.d (.sc _ rfl));have hs:=cG (L:=s1.length) (M:=M) (ale _) assign _ _ s1 σ1 W _ (.refl _ _ _) V2 hR2 hd (some (w.heap.size+1)) [];have agc:({ tmps:=(#[p].zip #[Value.int .i64 (v i)]).foldl (λt (p,v)=>t.setIfInBounds p v) a.tmps,defers:=[] }:Act)=Act.wD (a.put (some p) (.int .i64 (v i))) []:=by simp [Act.wD,Act.put]
  simp only at hy ⊢;rw[agc];refine wpIn_mono (F:=G7 (some (w.heap.size+1))) hs ?_;rintro ex a1 w1 ⟨qg,sY,e1,σ2,s2,Dt,X3,hR3,hq⟩;cases ex with
  |normal =>
   have tc:=sY _ _ hl rfl;have adx:=eo tc;refine⟨_,run_beginRound tc (by rw[eH]),?_⟩;have Ng:∀B,B<=w.heap.size+1->Tw B w1 (w1.putObj (w.heap.size+1) (.loop { rec .ready none with state:=.busy })):=λB hB=>.put _ tc rfl hB;have hT3:∀B,B<=w.heap.size+1->Tw B W (W.putObj (w.heap.size+1) (.loop { rec .ready none with state:=.busy })):=λB hB=>.put _ hl rfl hB;have YO:=cG (L:=s1.length) (M:=M) (ale _) body _ e1 s2 σ2 _ _ (Dt.both hbz hwl adx) (X3.tw (Ng 0 ae)) (hR3.tw (Ng 0 ae)) hq (some (w.heap.size+1)) [];rw[To qg]at YO;refine wpIn_mono (F:=G7 (some (w.heap.size+1))) YO ?_;rintro ex a2 w3 ⟨hd2,DH,e3,σ3,s3,hE3,hI3,hR4,rfl,s4,hc,hi4⟩;have Xs:=DH _ _ (World.putObj_heap_same adx) rfl;have Ep:=DH _ _ ((World.putObj_heap_other ae).trans (sY _ _ hk rfl)) rfl;have afL:=eo Xs;refine⟨_,_,run_endRound none Xs,rfl,?_⟩;have hT4:∀B,B<=w.heap.size+1->Tw B w3 (w3.putObj (w.heap.size+1) (.loop (rec .ready none))):=λB hB=>.put _ Xs rfl hB;have aeW:({ ({ rec .ready none with state:=.busy }:Loop) with state:=if (none:Option Code).isNone then .ready else .done,pending:=none }:Loop)=rec .ready none:=by rw[eH];rfl
   rw[aeW];have hEa:aK σ0 s0 w0 σ3 s3 w3:=(PE.tw (hT3 w0.heap.size ae) (ale _)).trans hE3;have hRa:eE σ3 s3 w3 N e a:=(VQ.tw (hT3 0 ae)).bj hE3;obtain⟨σ4,k1,k2,k3⟩:=hc σ0 s0 w0 σ3 _ N a hL (hEa.tw (hT4 w0.heap.size ae) (ale _)) (hI3.tw (hT4 0 ae)) (hRa.tw (hT4 0 ae));exact⟨σ4,s4,k1,k2,k3,hi4,World.putObj_heap_same afL,(World.putObj_heap_other ae).trans Ep⟩
  |exit id=>exact absurd hq.1 aq
  |goto t=>exact absurd hq.1 aq
  |ret=>exact absurd hq.1 aq
  |panic c=>exact absurd hq.1 aq
  |outgrown=>exact absurd hq.1 aq
 ·
  rintro e2 w2 ⟨⟨u,rfl⟩,σ2,s2,Dt,X3,hR2,hi,hl,hk⟩;have Y2:=eo hl;have hT:∀B,B<=w.heap.size+1->Tw B w2 (w2.putObj (w.heap.size+1) (.loop { rec .ready none with state:=.exhausted })):=λB hB=>.put _ hl rfl hB;have bL:(rec .ready none).state≠.busy:=by rw[eH];intro h;cases h
  have hpd:(rec .ready none).pending=none:=by rw[eH]
  have uF:=run_endLoop (P:=P) hl bL;refine⟨none,w2.putObj (w.heap.size+1) (.loop { rec .ready none with state:=.exhausted }),by rw[uF];exact congrArg (λx=>Result.ok x _) hpd,?_⟩;have:=hQ w.heap.size _ σ2 s2 gr ((World.putObj_heap_other ae).trans hk) (Dt.tw (hT w0.heap.size ae) (ale _)) (X3.tw (hT 0 ae)) (hR2.tw (hT 0 ae)) hi;have ha:({ a with defers:=[{ target:=.collected w.heap.size,args:=#[] }]++a.defers }:Act)=Act.wD a [{ target:=.collected w.heap.size,args:=#[] }]:=by rw[hR.1];rfl
  rw[ha];exact this
open Go.RowKit
variable{assign:Code}{body:Code}{e:Env}{N:Nat}{M:Nat}{P:Program}{s:List Obj}{g:Operand}{L:Nat}{y:Code}{Q:Exit->Env->List Obj->Prop}
def tC (P:Program) (N L M:Nat) (g:Operand) (ps:Array Tmp) (assign body:Code) (e:Env) (s:List Obj) (K:Env->List Obj->Prop):Prop :=
 ∃(tf p gf:Nat) (pF:List D) (FN:Nat) (v:Nat->Int) (I:Nat->List Obj->Prop) (e1:Env) (s1:List Obj),g=.tmp tf/\ps=#[p]/\p<N/\e1 tf=.d (.cl (.func gf) [] pF)/\Js P gf pF FN v/\bO L e s e1 s1/\I 0 s1 /\
  (∀i s,i<FN->I i s->codeWp P N s.length M (.seq assign body) (λex _ s'=>ex=.normal/\∃Cx,bO L e1 s' e1 Cx/\I (i+1) Cx) (ca e1 p (.d (.sc (.int .i64 (v i))))) s)/\∀s,I FN s->K e1 s
theorem tC.of{ps:Array Tmp}{K:Env->List Obj->Prop} (tf p gf:Nat) (pF:List D) (FN:Nat) (v:Nat->Int) (I:Nat->List Obj->Prop) (F:Env->Prop)
  (hg:g=.tmp tf) (tP:ps=#[p]) (hp:p<N) (hi:Js P gf pF FN v) (h0:∃e1 s1,bO L e s e1 s1/\e1 tf=.d (.cl (.func gf) [] pF)/\F e1/\I 0 s1)
  (h:∀e1,F e1->∀i s,i<FN->I i s->codeWp P N s.length M (.seq assign body) (λex _ s'=>ex=.normal/\∃Cx,bO L e1 s' e1 Cx/\I (i+1) Cx) (ca e1 p (.d (.sc (.int .i64 (v i))))) s)
  (hK:∀e1,F e1->∀s,I FN s->K e1 s):tC P N L M g ps assign body e s K:=by
 obtain⟨e1,s1,h1,h2,h3,h4⟩:=h0;exact⟨tf,p,gf,pF,FN,v,I,e1,s1,hg,tP,hp,h2,hi,h1,h4,h e1 h3,hK e1 h3⟩
def qP (P:Program) (N L M:Nat):Code->(Exit->Env->List Obj->Prop)->Env->List Obj->Prop
 |.seq x y,Q,e,s=>match x with
  |.seq x1 (.block _ (.rangeFunc g ps assign body))=>codeWp P N L M x1 (λex e s=>ex=.normal/\tC P N L M g ps assign body e s λe s=>codeWp P N s.length M y Q e s) e s
  |x=>codeWp P N L M x (λex e s=>ex=.normal/\qP P N L M y Q e s) e s
 |_,_,_,_=>False
def GK (P:Program) (N L M:Nat) (y:Code) (Q:Exit->Env->List Obj->Prop) (ex:Exit) (e:Env) (s:List Obj):Prop:=ex=.normal/\qP P N L M y Q e s
def RK (P:Program) (N L M:Nat) (g:Operand) (ps:Array Tmp) (assign body y:Code) (Q:Exit->Env->List Obj->Prop) (ex:Exit) (e:Env) (s:List Obj):Prop:=ex=.normal/\tC P N L M g ps assign body e s λe s=>codeWp P N s.length M y Q e s
theorem rA:GK P N L M y Q .normal e s=qP P N L M y Q e s:=propext ⟨λh=>h.2,λh=>⟨rfl,h⟩⟩
theorem wo{ps:Array Tmp}:RK P N L M g ps assign body y Q .normal e s=tC P N L M g ps assign body e s λe s=>codeWp P N s.length M y Q e s:=propext ⟨λh=>h.2,λh=>⟨rfl,h⟩⟩
theorem jK{id:Nat}{ops:Array Oper}{dr:Bool} :
  qP P N L M (.seq (.region id ops dr) y) Q e s=codeWp P N L M (.region id ops dr) (GK P N L M y Q) e s:=(rfl)
theorem nz{i:Nat}{x1:Code}{ps:Array Tmp} :
  qP P N L M (.seq (.seq x1 (.block i (.rangeFunc g ps assign body))) y) Q e s=codeWp P N L M x1 (RK P N L M g ps assign body y Q) e s:=(rfl)
def QG (σ0:Gh) (s0:List Obj) (w0:World) (N:Nat) (Q:Exit->Env->List Obj->Prop):Exit->Act->World->Prop :=
 λex a w=>∃D:Nat,w0.heap.size<=D/\a.defers=[{ target:=.collected D,args:=#[] }]/\w.heap[D]?=some (.deferred (some []))/\QX σ0 s0 w0 N Q ex (Act.wD a []) w
theorem xt {P:Program}{N L M:Nat}{σ0:Gh}{s0:List Obj}{w0:World} (hL:s0.length<=L):∀(c:Code) (Q:Exit->Env->List Obj->Prop) (e:Env) (s:List Obj) (σ:Gh) (w:World) (a:Act),
  aK σ0 s0 w0 σ s w->Inv σ s w->eE σ s w N e a->qP P N L M c Q e s->c.wpIn (G7 none) 0 P (QG σ0 s0 w0 N Q) a w
 |.seq x y,Q,e,s,σ,w,a,hE,hI,hR,h=>by
  simp only[qP]at h;split at h
  ·rename_i x1 i g ps assign body;refine wpIn_seq (wpIn_seq ?_);have h1:=cG hL x1 _ e s σ w a hE hI hR h none [];rw[uz hR.1]at h1;refine wpIn_mono h1 ?_;rintro ex a1 w1 ⟨qg,_,e1,σ1,s1,PE,V2,VQ,rfl,hr⟩;rw[uz qg]at VQ;obtain⟨tf,p,gf,pF,FN,v,I,e2,s2,rfl,rfl,hp,hg,Qv,hc,h0,hround,hK⟩:=hr;obtain⟨σ2,Dt,X3,hR2⟩:=hc σ0 s0 w0 σ1 w1 N a1 hL PE V2 VQ;refine wpIn_block (Lo hL Qv I Dt X3 hR2 hg hp h0 hround ?_);intro D w3 σ3 s3 hD hH hE3 hI3 hR3 hi;have h3:=cG (L:=s3.length) (ale _) y Q e2 s3 σ3 w3 a1 (.refl _ _ _) hI3 hR3 (hK s3 hi) none [{ target:=.collected D,args:=#[] }];refine wpIn_mono h3 ?_;rintro ex a4 w4 ⟨hd4,hk4,e4,σ4,s4,hE4,hI4,hR4,hq⟩;exact⟨D,hD,hd4,hk4 _ _ hH rfl,e4,σ4,s4,hE3.trans hE4,hI4,hR4,hq⟩
  ·refine wpIn_seq ?_;have h1:=cG hL x _ e s σ w a hE hI hR h none [];rw[uz hR.1]at h1;refine wpIn_mono h1 ?_;rintro ex a1 w1 ⟨qg,_,e1,σ1,s1,PE,V2,VQ,rfl,hr⟩;rw[uz qg]at VQ;exact xt hL y Q e1 s1 σ1 w1 a1 PE V2 VQ hr
 |.skip,_,_,_,_,_,_,_,_,_,h=>h.elim
 |.region ..,_,_,_,_,_,_,_,_,_,h=>h.elim
 |.cond ..,_,_,_,_,_,_,_,_,_,h=>h.elim
 |.block ..,_,_,_,_,_,_,_,_,_,h=>h.elim
 |.loop ..,_,_,_,_,_,_,_,_,_,h=>h.elim
 |.exit ..,_,_,_,_,_,_,_,_,_,h=>h.elim
 |.ret,_,_,_,_,_,_,_,_,_,h=>h.elim
 |.rangeFunc ..,_,_,_,_,_,_,_,_,_,h=>h.elim
 |.scope _,_,_,_,_,_,_,_,_,_,h=>h.elim
 |.label _,_,_,_,_,_,_,_,_,_,h=>h.elim
 |.goto _,_,_,_,_,_,_,_,_,_,h=>h.elim
 |.refuse _,_,_,_,_,_,_,_,_,_,h=>h.elim
theorem OY {P : Program} {f : FuncId} {fn : Func} {c : Code} {args : List V} {exts : List Obj} {K : V → List Obj → Prop} (hf : P.funcs[f]? = some fn) (hb : fn.body = some c) {N : Nat} (hN : fn.ntmps = N) {rs : Array ResultVar} (QS : fn.results = rs) (hn : (fn.name != "runtime.NumGoroutine") = true)
  (bM M:Nat) (hl:exts.length<=bM) (ha:args.length<=N)
  (h:qP P N bM M c (tV P rs.toList bM K) (iT args) exts):av P f args exts K:=by
 subst hN;subst QS;refine⟨by simp only[MJ,hf,hn,hb,Option.isSome_some,amh],λσ w vals hI YH hv=>?_⟩;refine callsIn_wide.1 (callsIn_of_wp_marks (F:=Fence.wide) (n:=0) hf hb trivial ?_ rfl);have hR:eE σ exts w fn.ntmps (iT args) { tmps:=vals++Array.replicate (fn.ntmps-vals.size) undef,defers:=[] }:=by
  exact Zaf
 refine wpIn_mono (F:=G7 none) (xt hl c _ (iT args) exts σ w _ (aK.refl _ _ _) hI hR h) ?_;rintro ex a' w' ⟨D,hD,hd,hH,e',σ',s',hE,jR,qu,hex,hq⟩;have hT:Tw w.heap.size w' (w'.putObj D (.deferred none)):=.put _ hH rfl hD;have Dt:=hE.tw hT (ale _);have X3:=jR.tw hT;obtain⟨v,u,k1,k2,k3⟩:=nS X3 (qu.tw hT) hq;obtain⟨bp,h0,hK⟩:=k3;obtain⟨h1,h2,h3⟩:=ve h0;have fin:LeavesInM Fence.wide 0 P fn a'.tmps (λe RL=>∃u v σ' s',e=.returned u/\aK σ exts w σ' s' RL/\Inv σ' s' RL/\aD σ' s' RL v u/\K v s') a'.defers .returning w':=by rw[hd];refine⟨aq,.inl ⟨D,_,rfl,run_takeDeferred hH,?_⟩⟩;exact⟨u,k1,u,_,_,_,rfl,Dt.FL h2 (λid dA=>h3 id ae),X3.FL h2 h1,k2.FL h2,hK⟩
 exact ZbC
theorem cr.Wr{o:Obj}{v:V} (k t:Nat) (he:e t=.rf k o.g 0 0) (ho:s[k]?=some o) (hl:o.live=true) (iy:o.aA=[[v]]):cr e s (ca e t (.bx v)) (bU s k):=by
 intro σ0 s0 w0 σ w N a hE hI hR;obtain⟨h1,h2⟩:=u7 hI k;refine⟨σ,hE.trans h1,h2,hR.1,hR.2.1,λt'=>?_⟩;unfold ca;split
 ·rename_i ht;subst ht;have hr:=hR.2.2 t';rw[he]at hr;generalize a.tmps.getD t' undef=u at hr;exact Zaz
 ·exact(hR.2.2 t').bj h1
end Go.VL
