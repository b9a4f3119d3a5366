/- A part of the proof (G19 F51 F52 F61 G20 G21 G22). -/
import Derived.Test.YtfmdmlfhigocaaaOR14
import Derived.Test.YtfmdmlfhigocaaaOR23
import Derived.Test.YtfmdmlfhigocaaaOR24
set_option linter.unusedSimpArgs false
set_option linter.unusedVariables false
open Nat renaming reduceShiftRight → cy, reduceMod → cJ, reduceEqDiff → dV, reduceAdd → fi, reduceBEq → gV
open Int renaming reduceNatCast' → kd
set_option maxRecDepth 100000
set_option maxHeartbeats 80000000
namespace Go.Proofs.Ytfmdmlfhigocaaa
open Go.VL Go.Proofs.Try
variable{most:Int}{t:List Int}{ai:Int}{top:Int}{fuel:Int}{p:eJ}
def A9 (at_:Int) (x:Int×aD):List D:=[iD at_,iD x.1,df x.2]
def oB (p:eJ):aD:=List.replicate p.ai.toNat (-1,-1)
def VC (at_:Int) (x:bh):V:=if x.empty=true then .tu [.d (.sl []),i64 0,i64 11] else .tu [.d (.sl ((x.ends.zip x.ai).map (A9 at_))),i64 x.steps,i64 0]
def aaM (e:Int):V:=.tu [.d (.sl []),i64 0,i64 e]
theorem VK (p:eJ) (t:List Int) (at_ most fuel:Int) (hf:p.re.cN=true) (hs:p.re.size<=1000000000) (ht:t.length<=1000000000) (hv:dp p t fuel≠0) :
  aM prog 26 [aE p,.d (an t),i64 at_,i64 most,i64 fuel] (aaM (dp p t fuel)):=by
 have h1:=wA p t fuel hf hs ht;cases p with
 |mk re ai aF =>
 simp only[aE,Re.ah re,aiZ,ai2,aiX,ai0,i64,iD,bD,bV]at h1;generalize dp ⟨re,ai,aF⟩ t fuel=v at *;refine bk func26 ntmps26 results26 0 130111 ?_;simp only[zI,simprocAttr,aE,Re.ah re,bV,iD,bD];refine bO h1 ?_;simp only[zI,simprocAttr,aE,bV,iD,bD,hv];rfl
theorem QP (p:eJ) (t:List Int) (at_ most fuel:Int) (hf:p.re.cN=true) (hs:p.re.size<=1000000000) (ht:t.length<=1000000000) (hv:dp p t fuel=0) (ha:at_<0\/t.length<at_) :
  aM prog 26 [aE p,.d (an t),i64 at_,i64 most,i64 fuel] (aaM 5):=by
 have h1:=wA p t fuel hf hs ht;rw[hv]at h1;cases p with
 |mk re ai aF =>
 simp only[aE,Re.ah re,aiZ,ai2,aiX,ai0,i64,iD,bD,bV]at h1;refine bk func26 ntmps26 results26 0 130111 ?_;simp only[zI,simprocAttr,aE,Re.ah re,bV,iD,bD];refine bO h1 ?_;simp only[zI,simprocAttr,aE,bV,iD,bD];by_cases c1:at_<0
 ·simp only[zI,simprocAttr,aE,bV,iD,bD,c1];rfl
 ·have c2:(t.length:Int)<at_:=ha.resolve_left c1;simp only[zI,simprocAttr,aE,bV,iD,bD,c1,c2,an,gt_iff_lt,aiW];rfl
def adb (re:Re) (ai:Int) (aF:Bool) (t:List Int) (most fuel xs:Int) (iT:List Int) (rR:List aD):List VL.Obj :=
 [⟨0,true,10,[[.d (.sc (.int .i64 re.op)),.d (.sl (re.set.map aU)),.d (.sl (re.kids.map Re.cells)),.d (.sc (.int .i64 re.mn)),.d (.sc (.int .i64 re.mx)),.d (.sc (.int .i64 re.mode)),.d (.sc (.int .i64 re.n)),.d (.sc (.bool re.neg)),.d (.sc (.int .i64 ai)),.d (.sc (.bool aF))]]⟩,
  ⟨0,true,7,[[.d (an t),.d (.sc (.int .i64 most)),.d (.sc (.int .i64 fuel)),.d (.sc (.int .i64 xs)),.d (.sc (.bool false)),.so 3 iT.length 0 iT.length,.so 4 iT.length 0 rR.length]]⟩,
  ⟨1,false,12,[[.d (.sc (.int .i64 0)),.d (.sc (.int .i64 re.op)),.d (.sl (re.set.map aU)),.d (.sl (re.kids.map Re.cells)),.d (.sc (.int .i64 re.mn)),.d (.sc (.int .i64 re.mx)),.d (.sc (.int .i64 re.mode)),.d (.sc (.int .i64 re.n)),.d (.sc (.bool re.neg)),.d (.sc (.int .i64 0)),.d (.sc (.int .i64 0)),.d (.sc (.pointer none))]]⟩,
  ⟨iT.length,true,1,iT.map λx=>[.d (.sc (.int .i64 x))]⟩,⟨iT.length,true,1,rR.map λc=>[.d (df c)]⟩]
theorem V5 (p:eJ) (t:List Int) (at_ most fuel:Int) (hf:p.re.cN=true) (hs:p.re.size<=1000000000) (ht:t.length<=1000000) (hc:p.ai<=1000000) (hv:dp p t fuel=0) (a0:0<=at_) (a1:at_<=t.length)
  {n:Nat}{b:Bool}{x:bh} (hx:fV t fuel n most (.run (.mk 0 p.re 0 0 .nil) at_ (oB p)) ⟨0,false,[],[]⟩=some (b,x)) (hl:x.ends.length<=2000000000000) (hlc:x.ai.length=x.ends.length) :
  aM prog 26 [aE p,.d (an t),i64 at_,i64 most,i64 fuel] (VC at_ x):=by
 have h1:=wA p t fuel hf hs ae;have hb:=VM p.ai hc;have F9:Goal.nil.d=.sc (.pointer none):=rfl;rw[hv]at h1;have eZ:=Pt (F:=fuel) ht n 0 most _ _ _ _ hx;unfold cb dL fS ff at eZ;unfold oB at eZ;cases p with
 |mk re ai aF =>
 simp only[Goal.cj,F9,i64,bV,iD,bD]at eZ;simp only[i64]at hb;simp only[aE,Re.ah re,aiZ,ai2,aiX,ai0,i64,iD,bD,bV]at h1;clear hx hv;have c1:¬at_<0:=ae;have c2:¬(t.length:Int)<at_:=ae;refine bk func26 ntmps26 results26 0 130111 ?_;simp only[zI,simprocAttr,aE,Re.ah re,bV,iD,bD];refine bO h1 ?_;simp only[zI,simprocAttr,aE,bV,iD,bD,c1,c2,an,gt_iff_lt,aiW];refine aX ct.bt ?_;refine aA mix [9] [(4,[2],[2])] aN ?_;simp only[zI,simprocAttr,bV,hole];refine bR hb rfl rfl ?_;simp only[zQ,simprocAttr];refine fG (r:=.d (.sc (.bool b))) (s1:=[⟨0,true,10,[[.d (.sc (.int .i64 re.op)),.d (.sl (re.set.map aU)),.d (.sl (re.kids.map Re.cells)),.d (.sc (.int .i64 re.mn)),.d (.sc (.int .i64 re.mx)),.d (.sc (.int .i64 re.mode)),.d (.sc (.int .i64 re.n)),.d (.sc (.bool re.neg)),.d (.sc (.int .i64 ai)),.d (.sc (.bool aF))]]⟩,
  ⟨0,true,7,[[.d (an t),.d (.sc (.int .i64 most)),.d (.sc (.int .i64 fuel)),.d (.sc (.int .i64 x.steps)),.d (.sc (.bool x.empty)),.so 3 x.ends.length 0 x.ends.length,.so 4 x.ends.length 0 x.ai.length]]⟩,
  ⟨1,false,12,[[.d (.sc (.int .i64 0)),.d (.sc (.int .i64 re.op)),.d (.sl (re.set.map aU)),.d (.sl (re.kids.map Re.cells)),.d (.sc (.int .i64 re.mn)),.d (.sc (.int .i64 re.mx)),.d (.sc (.int .i64 re.mode)),.d (.sc (.int .i64 re.n)),.d (.sc (.bool re.neg)),.d (.sc (.int .i64 0)),.d (.sc (.int .i64 0)),.d (.sc (.pointer none))]]⟩,
  ⟨x.ends.length,true,1,x.ends.map λx=>[.d (.sc (.int .i64 x))]⟩,⟨x.ends.length,true,1,x.ai.map λc=>[.d (df c)]⟩]) ?_ ?_
 ·refine bL (cargs:=[.rf 1 0 0 0,.d (.el [.sc (.int .i64 0),.sc (.int .i64 re.op),.sl (re.set.map aU),.sl (re.kids.map Re.cells),.sc (.int .i64 re.mn),.sc (.int .i64 re.mx),.sc (.int .i64 re.mode),.sc (.int .i64 re.n),.sc (.bool re.neg),.sc (.int .i64 0),.sc (.int .i64 0),.sc (.pointer none)]),.d (.sc (.int .i64 at_)),.d (df (List.replicate ai.toNat (-1,-1)))]) [2] (by simp [bA,bP,bm.go,bm,cR]) ?_;simp only[bA,bP,ajv,ajJ,ajw,aju];refine jb (pre:=[.d (an t),.d (.sc (.int .i64 most)),.d (.sc (.int .i64 fuel)),.d (.sc (.int .i64 0)),.d (.sc (.bool false))]) (post:=[.fu []]) 1 1 rfl rfl rfl ?_;simp only[ajw,aju,aiX,ai0,ai8,ai9,fi];refine jb (pre:=[.d (an t),.d (.sc (.int .i64 most)),.d (.sc (.int .i64 fuel)),.d (.sc (.int .i64 0)),.d (.sc (.bool false)),.so 3 0 0 0]) (post:=[]) 1 1 rfl rfl rfl ?_;simp only[ajw,aju,aiX,ai0,ai8,ai9,fi];refine ew [1,3,4] eZ aJ rfl rfl rfl rfl ?_ rfl ?_
  ·rfl
  simp only[aiZ,ai2,H9,aO,aju,ajw,bf,aS,aS.go,aj2,ajW,ajL,and_self,true_and];rfl
 ·clear eZ;obtain⟨xs,xe,iT,rR⟩:=x;simp only at hl hlc;cases xe with
  |true =>
   simp only[zQ,simprocAttr,VC]
  |false =>
   simp only[E6,BB,BG,simprocAttr,nX,i64,bV,iD,bD,VC,ajf,if_false];refine ay (λn e s=>∃i:Nat,n=iT.length-i/\i<=iT.length/\e 2=i64 at_/\e 14=.rf 1 0 0 0/\e 16=i64 i/\Acc (adb re ai aF t most fuel xs iT rR) 3 (e 15) s (((iT.zip rR).take i).map (A9 at_)))
    ⟨_,_,_,bJ.refl,0,rfl,ae,rfl,rfl,rfl,.inl ⟨rfl,rfl⟩⟩ ?_
   rintro n e s ⟨i,rfl,hi,h2,jl,mV,iz⟩;have WQ:=iz.get (id:=1) rfl;have hB3:=iz.get (id:=3) rfl;have hB4:=iz.get (id:=4) rfl;have afK:(0:Int)<=i:=ae;rcases ajr i iT.length with aB|iA
   ·obtain⟨y,hy⟩:∃y,iT[i]?=some y:=bZ aB;obtain⟨z,hz⟩:∃z,rR[i]?=some z:=bZ;have hyz:(iT.zip rR)[i]?=some (y,z):=by rw[List.getElem?_zip_eq_some];exact⟨hy,hz⟩
    have aH:(i:Int)<iT.length:=ae;have adD:i<rR.length:=ae;simp only[E6,BB,BG,simprocAttr,nX,i64,iD,bD,bV,h2,jl,mV,WQ,hB3,hB4,aH,aB];refine aA mix [18] [] aN ?_;simp only[E6,BB,BG,simprocAttr,nX,i64,iD,bD,bV,h2,jl,mV,WQ,hB3,hB4,aH,aB,adD,hy,hz,ai7];refine iz.append Yb rfl aJ aJ (by intro y hy;obtain⟨z,_,rfl⟩:=List.mem_map.1 hy;rfl) aj aj (by simp only[aiW,aj3,ai8,ai9];omega) (λv' s' DD=>?_);simp only[E6,BB,BG,simprocAttr,nX,i64,iD,bD,bV,h2,jl,mV];refine⟨iT.length-(i+1),_,_,ae,bJ.refl,i+1,rfl,aB,?_,?_,?_,?_⟩ <;> (try simp only[zU,gV,cy,cJ,dV,reduceIte])
    ·exact h2
    ·exact jl
    ·rw[bF _ ae];rfl
    ·rw[bj hyz];simpa [A9,iD]using DD
   ·have dY:i=iT.length:=by omega
    subst dY;have aH:¬(iT.length:Int)<iT.length:=ae;have YE:(iT.zip rR).length=iT.length:=by simp [hlc]
    have IV:(iT.zip rR).take iT.length=iT.zip rR:=by rw[<- YE,ajt]
    rw[IV]at iz;simp only[E6,BB,BG,simprocAttr,nX,i64,iD,bD,bV,h2,jl,mV,WQ,hB3,hB4,aH];refine aA mix [] [] aN ?_;simp only[E6,BB,BG,simprocAttr,nX,i64,iD,bD,bV,h2,jl,mV,WQ];rw[iz.Zl (Nat.zero_le _)];rfl
open Classical in
noncomputable def evX (t:List Int) (F most:Int) (task:Task) (st:bh):Bool×bh:=if h:∃n r,fV t F n most task st=some r then (Classical.choose_spec h).choose else (false,st)
theorem uN{F:Int}{task:Task}{st:bh}{n:Nat}{r:Bool×bh} (h:fV t F n most task st=some r):evX t F most task st=r:=by unfold evX;rw[dif_pos ⟨n,r,h⟩];exact Vo (Classical.choose_spec (Classical.choose_spec (⟨n,r,h⟩:∃n r,fV t F n most task st=some r))) h
theorem Jz {re:Re} (h:bS re ai top=true) (hk:re.kids.length<=1000000000):kH re=true:=by
 obtain⟨h1,h2,h3,h4,h5⟩:=fA.1 h;have gD:re.set.length<=64:=by
  split at h2
  ·simp only[iZ,aji,decide_eq_true_eq]at h2;exact h2.1
  ·omega
 refine bi ⟨λho hn=>?_,λho=>?_,ae,hk⟩
 ·have:=h1.2.2.1;rw[hn]at this;simp only[ai9,ajn]at this;rcases ho with o|o|o|o|o <;> rw[o]at this <;> simp [cw]at this
 ·have:=h1.2.2.1;rw[ho]at this;simp [cw]at this;omega
theorem K9 (re:Re) (h:re.whole ai top=true) (hs:re.size<=1000000):re.every kH=true:=by revert h hs;refine Re.ind (Q:=λre=>re.whole ai top=true->re.size<=1000000->re.every kH=true) (λre ih h hs=>?_) re;obtain⟨a1,a2⟩:=(Re.av re).1 h;have:=Re.mP re.kids;have:=Re.size_eq re;exact(Re.av re).2 ⟨Jz a1 ae,λk hk=>ih k hk (a2 k hk) (by have:=Re.bN hk;omega)⟩
noncomputable def cW (p:eJ) (t:List Int) (at_ most fuel:Int):Bool×bh:=evX t fuel most (.run (.mk 0 p.re 0 0 .nil) at_ (oB p)) ⟨0,false,[],[]⟩
theorem qL (h:dp p t fuel=0):cz p=0/\t.length<=65536/\t.all (eE p.aF)=true/\0<=fuel/\fuel<=1099511627776:=by
 unfold dp at h;split at h
 ·omega
 ·split at h
  ·omega
  ·split at h
   ·omega
   ·split at h
    ·omega
    ·refine⟨ae,ae,by simp_all,ae,ae⟩
theorem cT (h:cz p=0):p.re.size<=256/\p.re.depth<=24/\0<=p.ai/\p.ai<=9/\p.re.whole p.ai (hU p.aF)=true:=by
 unfold cz at h;split at h
 ·omega
 ·split at h
  ·omega
  ·rename_i h1 h2;refine⟨ae,ae,ae,ae,?_⟩;cases hw:p.re.whole p.ai (hU p.aF) with
   |true=>rfl
   |false=>exact absurd (.inr (.inr hw)) h2
theorem jN{at_:Int} (hv:dp p t fuel=0) (a0:0<=at_) (a1:at_<=t.length) :
  ∃n,fV t fuel n most (.run (.mk 0 p.re 0 0 .nil) at_ (oB p)) ⟨0,false,[],[]⟩=some (cW p t at_ most fuel)/\eL t fuel 0 at_ (oB p).length ⟨0,false,[],[]⟩ (cW p t at_ most fuel).1 (cW p t at_ most fuel).2:=by
 obtain⟨h1,h2,h3,h4,h5⟩:=qL hv;obtain⟨k1,k2,k3,k4,k5⟩:=cT h1;have iy:(oB p).length<=9:=by unfold oB;rw[aj6];omega
 obtain⟨n,b,s',e1,e2,_⟩:=TU (t:=t) (F:=fuel) ae _ _ most (.run (.mk 0 p.re 0 0 .nil) at_ (oB p)) ⟨0,false,[],[]⟩ (ajc _) (ajc _)
  ⟨ae,K9 _ k5 ae,by intro h;omega,by intro h;omega,by intro h;omega,by intro h;omega,trivial⟩
  ⟨a0,a1,⟨by show (oB p).length<=_;omega,λq hq=>.inl (List.eq_of_mem_replicate hq)⟩,rfl,ajs _,h4,by simp [Task.iW,eU],rfl⟩
 have hx:cW p t at_ most fuel=(b,s'):=uN e1;rw[hx];exact⟨n,e1,e2⟩
noncomputable def gU (p:eJ) (t:List Int) (at_ most fuel:Int):Int:=if dp p t fuel≠0 then dp p t fuel else if at_<0\/(t.length:Int)<at_ then 5 else if (cW p t at_ most fuel).2.empty=true then 11 else 0
noncomputable def allM (p:eJ) (t:List Int) (at_ most fuel:Int):List (Int×aD):=if gU p t at_ most fuel=0 then (cW p t at_ most fuel).2.ends.zip (cW p t at_ most fuel).2.ai else []
noncomputable def jI (p:eJ) (t:List Int) (at_ most fuel:Int):Int:=if gU p t at_ most fuel=0 then (cW p t at_ most fuel).2.steps else 0
theorem rH (p:eJ) (t:List Int) (at_ most fuel:Int) (hf:p.re.cN=true) (hs:p.re.size<=1000000000) (ht:t.length<=1000000000) :
  aM prog 26 [aE p,.d (an t),i64 at_,i64 most,i64 fuel] (.tu [.d (.sl ((allM p t at_ most fuel).map (A9 at_))),i64 (jI p t at_ most fuel),i64 (gU p t at_ most fuel)]):=by
 by_cases hv:dp p t fuel=0
 case neg =>
  have he:gU p t at_ most fuel=dp p t fuel:=by rw[gU,be hv]
  rw[allM,jI,he,ap hv,ap hv];exact VK p t at_ most fuel hf hs ht hv
 by_cases ha:at_<0\/(t.length:Int)<at_
 ·have he:gU p t at_ most fuel=5:=by rw[gU,bd,be ha]
  rw[allM,jI,he,bd,bd];exact QP p t at_ most fuel hf hs ht hv ha
 ·obtain⟨n,e1,e2⟩:=jN (at_:=at_) (most:=most) hv ae ae;obtain⟨h1,h2,_,h4,h5⟩:=qL hv;obtain⟨_,_,_,k4,_⟩:=cT h1;have he:gU p t at_ most fuel=if (cW p t at_ most fuel).2.empty=true then 11 else 0:=by rw[gU,bd,ap ha]
  rw[allM,jI,he];generalize cW p t at_ most fuel=X at *;obtain⟨b,x⟩:=X;simp only at e2 ⊢;obtain⟨new,oP,m1,m2,m3,m4,_⟩:=e2.more;have ef:=e2.s1;simp only[ai0]at m1 m2;have hlen:x.ends.length<=2000000000000:=by rw[m1];simp only at m4;omega
  have r:=V5 p t at_ most fuel hf hs ae ae hv ae ae e1 hlen (by rw[m1,m2,m3]);unfold VC at r;split at r
  ·rename_i hh;rw[be hh,ap aJ,ap aJ];exact r
  ·rename_i hh;rw[ap hh,be rfl,be rfl];exact r
end Go.Proofs.Ytfmdmlfhigocaaa
namespace Go.Proofs.Ytfmdmlfhigocaaa
open Go.VL Go.Proofs.Try
end Go.Proofs.Ytfmdmlfhigocaaa
namespace Go.Proofs.Ytfmdmlfhigocaaa
open Go.VL Go.Proofs.Try
structure kA where
 s:Int
 e:Int
 c:aD
deriving DecidableEq
def kA.v (m:kA):V:=.ag [i64 m.s,i64 m.e,.d (df m.c)]
theorem KI (a b:kA) (hc:a.c.length<=1000000000):aM prog 14 [a.v,b.v] (bV (decide (a=b))):=by
 obtain⟨s1,e1,c1⟩:=a;obtain⟨s2,e2,c2⟩:=b;simp only at hc;refine bk func14 ntmps14 results14 0 63 ?_;by_cases q1:s1=s2
 case neg =>
  simp only[zI,simprocAttr,-kd,iD,df,kA.v,q1];rw[ce (λh=>q1 (by simp only[kA.mk.injEq]at h;exact h.1))];rfl
 by_cases q2:e1=e2
 case neg =>
  simp only[zI,simprocAttr,-kd,iD,df,kA.v,q1,q2];rw[ce (λh=>q2 (by simp only[kA.mk.injEq]at h;exact h.2.1))];rfl
 by_cases q3:(c1.length:Int)=c2.length
 case neg =>
  simp only[zI,simprocAttr,-kd,iD,df,kA.v,q1,q2,q3,aiW];rw[ce (λh=>q3 (by simp only[kA.mk.injEq]at h;rw[h.2.2]))];rfl
 subst q1 q2;simp only[zI,simprocAttr,-kd,iD,df,kA.v,q3,aiW];refine ay (λn e s=>∃i:Nat,n=c1.length-i/\i<=c1.length/\e 2=.rf 0 0 0 0/\e 3=.rf 1 0 0 0/\e 5=i64 i/\s=[⟨0,true,3,[[i64 s1,i64 e1,.d (df c1)]]⟩,⟨0,true,3,[[i64 s1,i64 e1,.d (df c2)]]⟩]/\c1.take i=c2.take i)
  ⟨_,_,_,bJ.refl,0,rfl,ae,rfl,rfl,rfl,rfl,rfl⟩ ?_
 rintro n e s ⟨i,rfl,hi,h2,h3,h5,rfl,IV⟩;rcases ajr i c1.length with aB|iA
 ·have SY:i<c2.length:=by omega
  have aH:(i:Int)<c2.length:=ae;obtain⟨x,hx⟩:∃x,c1[i]?=some x:=bZ aB;obtain⟨y,hy⟩:∃y,c2[i]?=some y:=bZ SY;simp only[zI,simprocAttr,-kd,df,h2,h3,h5,aB,SY,q3,aH,aiW];refine aA mix [] [] aN ?_;simp only[zI,simprocAttr,-kd,df,h2,h3,h5,aB,SY,hx,hy,iD,aU,q3,aH,aiW];by_cases RJ:x=y
  ·have hb:(x.1 == y.1&&x.2 == y.2)=true:=by simp [RJ]
   simp only[zI,simprocAttr,-kd,df,h2,h3,h5,hb];refine⟨c1.length-(i+1),_,_,ae,bJ.refl,i+1,rfl,aB,?_,?_,?_,rfl,by rw[bj hx,bj hy,IV,RJ]⟩ <;> (try simp only[zU,gV,cy,cJ,dV,reduceIte])
   ·exact h2
   ·exact h3
   ·rw[bF _ ae];rfl
  ·have hb:(x.1 == y.1&&x.2 == y.2)=false:=by rw[ajO];intro h;exact RJ (by simp at h;exact Prod.ext h.1 h.2)
   simp only[zI,simprocAttr,-kd,df,h2,h3,h5,hb];rw[ce (λh=>by simp only[kA.mk.injEq,true_and]at h;subst h;rw[hx]at hy;simp only[ai5]at hy;exact RJ hy)];all_goals exact ed
 ·have dY:i=c1.length:=by omega
  subst dY;have hab:c1=c2:=by rw[ajt,ajb ae]at IV;exact IV
  simp only[zI,simprocAttr,-kd,df,h2,h3,h5,aj7,aiW];rw[bi (by rw[hab])];all_goals exact ed
def pT:List Int:=[97,97,97,98,98,99,97,98,10,32,65,200]
def kE (l:List Int) (most:Int):List Int:=(List.range (min l.length most.toNat)).map λi:Nat=>pT.getD (pick l i 12).toNat 0
theorem Vz (l:List Int) (hl:∀x∈l,fx x) (most:Int) (hm:most<=1000000):aM prog 17 [.d (an l),i64 most] (.d (an (kE l most))):=by
 refine bk func17 ntmps17 results17 0 115 ?_;simp only[E6,BB,BG,simprocAttr,-kd,nX,i64];refine ay (λm e s=>∃i:Nat,m=min l.length most.toNat-i/\i<=min l.length most.toNat/\e 0=.d (an l)/\e 1=i64 most/\e 6=i64 i/\Acc [] 1 (e 5) s (((List.range i).map λi:Nat=>pT.getD (pick l i 12).toNat 0).map λx=>[iD x]))
  ⟨_,_,_,bJ.refl,0,rfl,ae,rfl,rfl,rfl,.inl ⟨rfl,rfl⟩⟩ ?_
 rintro m e s ⟨i,rfl,hi,h0,h1,h6,iz⟩;have hp:=CT l hl i 12 ae;have RM:=cB l i 12 ae;simp only[i64]at hp;by_cases c1:(i:Int)<l.length
 case neg =>
  have dY:i=min l.length most.toNat:=ae;simp only[E6,BB,BG,simprocAttr,-kd,nX,i64,an,h0,h1,h6,c1,aiW];rw[iz.Zl aj];subst dY;simp only[kE,an]
 by_cases c2:(i:Int)<most
 case neg =>
  have dY:i=min l.length most.toNat:=ae;simp only[E6,BB,BG,simprocAttr,-kd,nX,i64,an,h0,h1,h6,c1,c2,aiW];rw[iz.Zl aj];subst dY;simp only[kE,an]
 simp only[E6,BB,BG,simprocAttr,-kd,nX,i64,h0,h1,h6,c1,c2];refine bO hp ?_;have Yo:pick l i 12=0\/pick l i 12=1\/pick l i 12=2\/pick l i 12=3\/pick l i 12=4\/pick l i 12=5\/pick l i 12=6\/pick l i 12=7\/pick l i 12=8\/pick l i 12=9\/pick l i 12=10\/pick l i 12=11:=ae;have go:∀(z:Int),pT.getD (pick l i 12).toNat 0=z->∀(v':V) (s':List VL.Obj),Acc [] 1 v' s' (((List.range i).map λi:Nat=>pT.getD (pick l i 12).toNat 0).map (λx=>[iD x])++[[iD z]])->Acc [] 1 v' s' (((List.range (i+1)).map λi:Nat=>pT.getD (pick l i 12).toNat 0).map λx=>[iD x]):=by intro z hz v' s' h;rw[List.range_succ,akf,akf,aiZ,ai2,hz];exact h
 rcases Yo with q|q|q|q|q|q|q|q|q|q|q|q;all_goals
  rw[q]at go ⊢;simp only[E6,BB,BG,simprocAttr,-kd,nX,i64,h0,h1,h6,Int.toNat_zero,Int.toNat_one];refine⟨ae,?_⟩;refine iz.append T5 rfl aJ aJ (by intro y hy;obtain⟨z,_,rfl⟩:=List.mem_map.1 hy;rfl) aj aj (by simp only[aiW,List.length_range,ai8,ai9];omega) (λv' s' DD=>?_);simp only[E6,BB,BG,simprocAttr,-kd,nX,i64,h0,h1,h6];refine⟨min l.length most.toNat-(i+1),_,_,ae,bJ.refl,i+1,rfl,ae,?_,?_,?_,?_⟩ <;> (try simp only[zU,gV,cy,cJ,dV,reduceIte])
  ·exact h0
  ·exact h1
  ·rw[bF _ ae];rfl
  ·exact go _ rfl _ _ DD
noncomputable def x6 (p:eJ) (t:List Int) (n:Nat) (fuel:Int) (i:Nat):Bool:=decide (gU p (t.take n) i (-1) fuel=0)
noncomputable def dx (p:eJ) (t:List Int) (fuel:Int):Nat->eJ×List Int
 |0=>(⟨.mk 0 [] [] 0 0 0 0 false,p.ai,false⟩,[])
 |n+1=>if (List.range (n+1)).all (x6 p t n fuel)=true then (p,t.take n) else dx p t fuel n
theorem E4 (f:Nat->Bool) (n:Nat):(List.range (n+1)).all f=((List.range n).all f&&f n):=by rw[List.range_succ,akm];simp
def xr (p:eJ):List VL.Obj:=[⟨0,true,10,[[i64 0,.fu [],.fu [],i64 0,i64 0,i64 0,i64 0,bV false,i64 0,bV false]]⟩,⟨0,true,10,[p.re.cells.map V.d++[i64 p.ai,bV p.aF]]⟩]
theorem Wp (l m:List Int) (hl:∀x∈l,fx x) (hm:∀x∈m,fx x) (dC most fuel:Int) (h0:0<=most) (h1:most<=100) :
  aM prog 16 [.d (an l),.d (an m),i64 dC,i64 most,i64 fuel]
   (.tu [aE (dx (mO l dC most) (kE m 12) fuel ((kE m 12).length+1)).1,.d (an (dx (mO l dC most) (kE m 12) fuel ((kE m 12).length+1)).2)]):=by
 have N5:=Nz l dC most hl h0 ae;have htx:=Vz m hm 12 ae;obtain⟨hv,fY⟩:=Bk l dC most hl h0 h1;have ZB:=Hp l dC most hl h0 h1;have SH:(mO l dC most).re.cN=true:=ts ae _ ZB.ev;have QN:(kE m 12).length<=12:=by simp [kE];omega
 generalize mO l dC most=p at *;generalize kE m 12=t at *;have bK:=λ(n i:Nat)=>rH p (t.take n) i (-1) fuel SH ae (by rw[aj3];omega);generalize hR:dx p t fuel (t.length+1)=R;have hpc:=Re.ah p.re;simp only[aE,Re.ah p.re,aiZ,ai2,aiX,ai0,i64,iD,bD,bV]at N5 bK;simp only[i64]at htx;refine bk func16 ntmps16 results16 0 654367 ?_;simp only[zX,simprocAttr,-kd,i64];refine bO N5 ?_;simp only[zX,simprocAttr,-kd,i64];refine bO htx ?_;simp only[zI,simprocAttr,-kd,an,aiW];refine ay (λN e s=>e 4=i64 fuel/\e 10=.rf 0 0 0 0/\e 12=.rf 1 0 0 0/\e 13=.d (an t)/\e 14=i64 ((N:Int)-1)/\N<=t.length+1/\dx p t fuel N=R/\s=xr p)
  ⟨t.length+1,_,_,bJ.refl,rfl,rfl,rfl,rfl,?_,ajc _,hR,?_⟩ ?_
 ·show i64 _=i64 _;congr 1;omega
 ·unfold xr;rw[Re.ah];rfl
 clear N5 htx hR;rintro N e s ⟨h4,dX,kz,yq,jl,hN,hR,rfl⟩;cases N with
 |zero =>
  unfold xr;rw[Re.ah];simp only[zI,simprocAttr,-kd,h4,dX,kz,yq,jl,bD,iD,ajn,Int.zero_sub];subst hR;simp only[dx,aE,Re.cells];rfl
 |succ n =>
  have e14:((n+1:Nat):Int)-1=n:=ae;rw[e14]at jl;have ie:(0:Int)<=n:=ae;unfold xr;rw[Re.ah];simp only[zI,simprocAttr,-kd,h4,dX,kz,yq,jl,bD,iD,ie,ge_iff_le];refine ay (λM e s=>∃i:Nat,M=n+1-i/\i<=n+1/\e 4=i64 fuel/\e 10=.rf 0 0 0 0/\e 12=.rf 1 0 0 0/\e 13=.d (an t)/\e 14=i64 n/\e 15=bV ((List.range i).all (x6 p t n fuel))/\e 16=i64 i/\s=xr p)
   ⟨_,_,_,bJ.refl,0,rfl,ae,?_,?_,?_,?_,?_,rfl,rfl,?_⟩ ?_ <;> (try simp only[zU,gV,cy,cJ,dV,reduceIte])
  ·exact h4
  ·exact dX
  ·exact kz
  ·exact yq
  ·exact jl
  ·unfold xr;rw[Re.ah];rfl
  rintro M e s ⟨i,rfl,hi,h4,dX,kz,yq,jl,nU,mV,rfl⟩;have bad:(List.range (n+1)).all (x6 p t n fuel)=false->dx p t fuel n=R:=by intro h;rw[dx,h]at hR;exact hR
  by_cases iU:(i:Int)<=n
  ·cases hg:(List.range i).all (x6 p t n fuel) with
   |false =>
    rw[hg]at nU;unfold xr;rw[Re.ah];simp only[zI,simprocAttr,-kd,h4,dX,kz,yq,jl,nU,mV,bD,iD,iU,bV];refine⟨n,_,_,ae,bJ.refl,?_,?_,?_,?_,?_,ae,bad ?_,?_⟩ <;> (try simp only[zU,gV,cy,cJ,dV,reduceIte])
    ·exact h4
    ·exact dX
    ·exact kz
    ·exact yq
    ·rw[bF _ ae]
    ·rw[ajO]at hg ⊢;intro h;apply hg;rw[ajo]at h ⊢;exact λx hx=>h x (List.mem_range.2 (by have:=List.mem_range.1 hx;omega))
   |true =>
    rw[hg]at nU;have Gl:=bK n i;have UI:n<=t.length:=ae;unfold xr;rw[Re.ah];simp only[zI,simprocAttr,-kd,h4,dX,kz,yq,jl,nU,mV,bD,iD,iU,bV];refine aA mix [] [] aN ?_;simp only[zI,simprocAttr,-kd,h4,dX,kz,yq,jl,nU,mV,bD,iD,an,aiW,ie,UI];refine⟨ae,?_⟩;have IV:List.take ((n:Int)-0).toNat (List.map (λx=>[D.sc (.int .i64 x)]) t)=(t.take n).map (λx=>[D.sc (.int .i64 x)]):=by rw[<- List.map_take];congr 2
    rw[IV];simp only[an,iD]at Gl;refine bR Gl eX eX ?_;simp only[zI,simprocAttr,-kd,h4,dX,kz,yq,jl,nU,mV,bD,iD,an,aiW,ie,UI];refine⟨n+1-(i+1),_,_,ae,bJ.refl,i+1,rfl,ae,?_,?_,?_,?_,?_,?_,?_,?_⟩ <;> (try simp only[zU,gV,cy,cJ,dV,reduceIte])
    ·exact h4
    ·exact dX
    ·exact kz
    ·exact yq
    ·exact jl
    ·rw[E4,hg,ake];rfl
    ·rw[bF _ ae];rfl
  ·have dY:i=n+1:=by omega
   subst dY;cases hg:(List.range (n+1)).all (x6 p t n fuel) with
   |false =>
    rw[hg]at nU;unfold xr;rw[Re.ah];simp only[zI,simprocAttr,-kd,h4,dX,kz,yq,jl,nU,mV,bD,iD,iU,bV];refine⟨n,_,_,ae,bJ.refl,?_,?_,?_,?_,?_,ae,bad hg,?_⟩ <;> (try simp only[zU,gV,cy,cJ,dV,reduceIte])
    ·exact h4
    ·exact dX
    ·exact kz
    ·exact yq
    ·rw[bF _ ae]
   |true =>
    rw[hg]at nU;rw[dx,hg,be rfl]at hR;subst hR;unfold xr;rw[Re.ah];have UI:n<=t.length:=ae;simp only[zI,simprocAttr,-kd,h4,dX,kz,yq,jl,nU,mV,bD,iD,iU,bV];refine aA mix [] [(0,[1],[]),(4,[0],[0])] aN ?_;simp only[zI,simprocAttr,-kd,h4,dX,kz,yq,jl,nU,mV,bD,iD,an,aiW,ie,UI];refine⟨ae,?_⟩;have IV:List.take ((n:Int)-0).toNat (List.map (λx=>[D.sc (.int .i64 x)]) t)=(t.take n).map (λx=>[D.sc (.int .i64 x)]):=by rw[<- List.map_take];congr 2
    rw[IV,aE,Re.ah];rfl
inductive adm where
 |nil
 |root
 |el (re:Re)
inductive WW where
 |nil
 |mk (kind:Int) (re:adm) (n at_:Int) (next:WW)
structure Ny where
 at_:Int
 ai:aD
 todo:WW
structure S7 where
 p:eJ
 t:List Int
 Vr:Bool
 own:List Int
 agn:Nat
 stk:List (Option Ny)
 top:Nat
 gen:Nat
 acr:Int
 start:Int
 steps:Int
 fuel:Int
 Z1:Bool
 ready:Bool
def S7.step (m:S7):S7:=if m.steps<m.fuel then { m with steps:=m.steps+1 } else { m with Z1:=true }
end Go.Proofs.Ytfmdmlfhigocaaa
