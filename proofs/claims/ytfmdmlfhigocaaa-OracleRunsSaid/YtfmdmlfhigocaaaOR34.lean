/- A part of the proof (O21 O22). -/
import Derived.Test.YtfmdmlfhigocaaaOR16
import Derived.Test.YtfmdmlfhigocaaaOR32
set_option linter.unusedSimpArgs false
set_option linter.unusedVariables false
open Nat renaming reduceShiftRight → cy, reduceMod → cJ, reduceEqDiff → dV, reduceBEq → gV
set_option maxRecDepth 100000
set_option maxHeartbeats 80000000
namespace Go.Proofs.Ytfmdmlfhigocaaa
open Go.VL
def Fs (re:Re):Bool:=!re.iv||re.kids.all λk=>decide (1+dv k<=8192)
def nW (re:Re):Bool:=decide (1+dv re<=8192)&&re.every Fs
def pB:VL.Obj:=⟨0,true,1,[[.cl (.func 70) [] [.rf 0 0 0 0]]]⟩
theorem Dr (re:Re):0<=dv re/\dv re<=8193:=by unfold dv;omega
def Iy (re:Re):Prop:=az Try.prog 70 [kj re,.rf 0 0 0 0] [pB] λv s=>v=bV (re.every Fs)/\s=[pB]
theorem Ot {re:Re} (h:Iy re) {tl:List VL.Obj}{K:V->List VL.Obj->Prop} (hk:K (bV (re.every Fs)) (pB::tl)):az Try.prog 70 [kj re,.rf 0 0 0 0] (pB::tl) K:=by
 refine ew [0] h aJ rfl rfl ?_ ?_ aN (r':=bV (re.every Fs)) rfl ?_
 ·rw[aq];simp [aS,aS.go,i64,bV]
 ·rw[aq];simp [ak,ak.go,i64,bV]
 ·exact hk
theorem Ut (re:Re):re.every l5=true->Iy re:=by
 induction re using Re.ind with
 |h re ih =>
 intro hs;obtain⟨ef,fU⟩:=(Re.av re).1 hs;obtain⟨_,_,q3,_⟩:=iO.1 ef;unfold Iy;refine bk Try.func70 Try.ntmps70 Try.results70 1 943 ?_;simp only[zI,simprocAttr,aq re,iD,bD];refine ay (λn e s=>∃i:Nat,n=re.kids.length-i/\i<=re.kids.length/\e 1=.rf 0 0 0 0/\e 2=.rf 1 0 0 0/\e 7=.d (.sl (re.kids.map Re.cells))/\e 8=i64 re.kids.length/\e 9=i64 i/\(∀x∈re.kids.take i,(re.iv=true->1+dv x<=8192)/\x.every Fs=true)/\s=[pB,aI re]) ⟨_,_,_,bJ.refl,0,rfl,ae,rfl,rfl,rfl,rfl,rfl,aj,by simp [aI,Re.ah re,iD,bD]⟩ ?_;rintro n e s ⟨i,rfl,hi,h1,h2,h7,h8,h9,bK,rfl⟩;rcases ajr i re.kids.length with aB|iA
 ·obtain⟨k,hk⟩:∃k,re.kids[i]?=some k:=bZ aB;have hm:=ai4 hk;have aH:(i:Int)<(re.kids.length:Int):=ae;have hi0:(0:Int)<=(i:Int):=ae;have MU:=Eg k (fU k hm);have hlr:=Dr k;have w1:IntKind.i64.wrap (1+dv k)=1+dv k:=bF _ ae;have Jr:=λK hk=>Ot (ih k hm (fU k hm)) (tl:=[aI re,⟨0,true,8,[k.cells.map .d]⟩]) (K:=K) hk;have jZ:re.iv=true->8192<1+dv k->re.every Fs=false:=λh1 h2=>by rw[ajO];intro h;have h3:=((Re.av re).1 h).1;unfold Fs at h3;rw[h1]at h3;simp only[aje,ajx,ajo,decide_eq_true_eq]at h3;have:=h3 k hm;omega
  have Xi:k.every Fs=false->re.every Fs=false:=λh=>by rw[ajO];intro h3;have:=((Re.av re).1 h3).2 k hm;rw[h]at this;cases this
  simp only[i64]at MU;unfold aI at Jr;rw[Re.ah re]at Jr;generalize hyk:dv k=y at *;have oq:re.op=7\/re.op=8\/(re.op≠7/\re.op≠8):=ae;rcases oq with o|o|⟨o,o'⟩
  case inl|inr.inl =>
   have hl:re.iv=true:=by unfold Re.iv;simp only[o];rfl
   have Ln:¬re.iv=true->False:=λh=>h hl;by_cases c:8192<1+y
   ·rw[jZ hl c];simp only[zX,simprocAttr,aI,Re.ah re,aiZ,ai2,iD,bD,bV,h1,h2,h7,h8,h9,i64,aH,hi0,aB,hk,aiW,aiY,ai3,ai1,w1,o,c];refine bO MU ?_;simp only[zX,simprocAttr,aI,Re.ah re,aiZ,ai2,iD,bD,bV,h1,h2,h7,h8,h9,i64,aH,hi0,aB,hk,aiW,aiY,ai3,ai1,w1,o,c];all_goals rfl
   ·cases dZ:k.every Fs with
    |false =>
     rw[Xi dZ];simp only[zX,simprocAttr,aI,Re.ah re,aiZ,ai2,iD,bD,bV,h1,h2,h7,h8,h9,i64,aH,hi0,aB,hk,aiW,aiY,ai3,ai1,w1,o,c];refine bO MU ?_;simp only[zX,simprocAttr,aI,Re.ah re,aiZ,ai2,iD,bD,bV,h1,h2,h7,h8,h9,i64,aH,hi0,aB,hk,aiW,aiY,ai3,ai1,w1,o,c,pB,ajd];simp only[o]at Jr;unfold pB at Jr;refine Jr _ ?_;simp only[zX,simprocAttr,aI,Re.ah re,aiZ,ai2,iD,bD,bV,h1,h2,h7,h8,h9,i64,aH,hi0,aB,hk,aiW,aiY,ai3,ai1,w1,o,c,dZ,ajd];all_goals rfl
    |true =>
     simp only[zX,simprocAttr,aI,Re.ah re,aiZ,ai2,iD,bD,bV,h1,h2,h7,h8,h9,i64,aH,hi0,aB,hk,aiW,aiY,ai3,ai1,w1,o,c];refine bO MU ?_;simp only[zX,simprocAttr,aI,Re.ah re,aiZ,ai2,iD,bD,bV,h1,h2,h7,h8,h9,i64,aH,hi0,aB,hk,aiW,aiY,ai3,ai1,w1,o,c,pB,ajd];simp only[o]at Jr;unfold pB at Jr;refine Jr _ ?_;simp only[zX,simprocAttr,aI,Re.ah re,aiZ,ai2,iD,bD,bV,h1,h2,h7,h8,h9,i64,aH,hi0,aB,hk,aiW,aiY,ai3,ai1,w1,o,c,dZ,aje];refine⟨re.kids.length-(i+1),_,_,ae,bJ.cut (s':=[pB,aI re]) 2 ae (by simp [aI,pB,Re.ah re,iD,bD,o]) (by simp [aI,pB,bc,Re.ah re,ak,ak.go]) [1,2,7,8,9] (by simp [bX,aY,ak,h1,h2,h7,h8,h9,i64]),i+1,rfl,aB,?_,?_,?_,?_,?_,?_,by simp [aI,pB,Re.ah re,iD,bD,o]⟩ <;> (try simp only[zU,gV,cy,cJ,dV,reduceIte])
     ·exact h1
     ·exact h2
     ·exact h7
     ·exact h8
     ·rw[bF _ ae];rfl
     ·intro x hx;rcases cC hk hx with h|rfl
      ·exact bK x h
      ·exact⟨λkS=>by first|omega|exact absurd kS Ln,dZ⟩
  case inr.inr =>
   have Ln:¬re.iv=true:=by unfold Re.iv;simp;omega
   cases dZ:k.every Fs with
   |false =>
    rw[Xi dZ];simp only[zX,simprocAttr,aI,Re.ah re,aiZ,ai2,iD,bD,bV,h1,h2,h7,h8,h9,i64,aH,hi0,aB,hk,aiW,aiY,ai3,ai1,w1,o,o',pB,ajd];unfold pB at Jr;refine Jr _ ?_;simp only[zX,simprocAttr,aI,Re.ah re,aiZ,ai2,iD,bD,bV,h1,h2,h7,h8,h9,i64,aH,hi0,aB,hk,aiW,aiY,ai3,ai1,w1,o,o',dZ,ajd];all_goals rfl
   |true =>
    simp only[zX,simprocAttr,aI,Re.ah re,aiZ,ai2,iD,bD,bV,h1,h2,h7,h8,h9,i64,aH,hi0,aB,hk,aiW,aiY,ai3,ai1,w1,o,o',pB,ajd];unfold pB at Jr;refine Jr _ ?_;simp only[zX,simprocAttr,aI,Re.ah re,aiZ,ai2,iD,bD,bV,h1,h2,h7,h8,h9,i64,aH,hi0,aB,hk,aiW,aiY,ai3,ai1,w1,o,o',dZ,aje];refine⟨re.kids.length-(i+1),_,_,ae,bJ.cut (s':=[pB,aI re]) 2 ae (by simp [aI,pB,Re.ah re,iD,bD]) (by simp [aI,pB,bc,Re.ah re,ak,ak.go]) [1,2,7,8,9] (by simp [bX,aY,ak,h1,h2,h7,h8,h9,i64]),i+1,rfl,aB,?_,?_,?_,?_,?_,?_,by simp [aI,pB,Re.ah re,iD,bD]⟩ <;> (try simp only[zU,gV,cy,cJ,dV,reduceIte])
    ·exact h1
    ·exact h2
    ·exact h7
    ·exact h8
    ·rw[bF _ ae];rfl
    ·intro x hx;rcases cC hk hx with h|rfl
     ·exact bK x h
     ·exact⟨λkS=>by first|omega|exact absurd kS Ln,dZ⟩
 ·have dY:i=re.kids.length:=by omega
  subst dY;rw[ajt]at bK;have uS:re.every Fs=true:=(Re.av re).2 ⟨by
   unfold Fs;cases hl:re.iv with
   |false=>rfl
   |true =>
    simp only[aje,ajx,ajo,decide_eq_true_eq];exact λx hx=>(bK x hx).1 hl,λx hx=>(bK x hx).2⟩
  rw[uS];simp only[zX,simprocAttr,aI,Re.ah re,aiZ,ai2,iD,bD,bV,h1,h2,h7,h8,h9,i64,ajZ];all_goals rfl
mutual
def Re.dW:Re->List Bool->Bool->Bool
 |.mk op _ kids _ _ mode n _,A,look =>
  if op=6\/op=10\/op=9 then false
  else if op=4/\(mode=2\/Re.EI kids=true) then false
  else if op=5/\(look=true\/A.getD n.toNat false=true) then false
  else Re.Ls kids (if op=5 then A.set n.toNat true else A) (look||decide (op=7\/op=8))
def Re.Ls:List Re->List Bool->Bool->Bool
 |[],_,_=>true
 |k::l,A,look=>k.dW A look&&Re.Ls l A look
def Re.EI:List Re->Bool
 |[]=>false
 |k::_=>k.iQ
end
theorem Re.HD:∀(l:List Re) (A:List Bool) (look:Bool),Re.Ls l A look=l.all λk=>k.dW A look
 |[],_,_=>by simp [Re.Ls]
 |k::l,A,look=>by simp [Re.Ls,Re.HD l A look]
theorem Re.JK (re:Re) (A:List Bool) (look:Bool):re.dW A look=if re.op=6\/re.op=10\/re.op=9 then false
  else if re.op=4/\(re.mode=2\/Re.EI re.kids=true) then false
  else if re.op=5/\(look=true\/A.getD re.n.toNat false=true) then false
  else re.kids.all λk=>k.dW (if re.op=5 then A.set re.n.toNat true else A) (look||decide (re.op=7\/re.op=8)):=by
 cases re;rw[Re.dW,Re.HD];rfl
def kV (A:List Bool):V:=.ag (A.map bV)
def eM (A:List Bool):VL.Obj:=⟨0,true,A.length,[A.map bV]⟩
theorem zr (n:Nat):∀A:List Bool,ak.go n (A.map bV)=true
 |[]=>rfl
 |b::A=>by have:=zr n A;simp only[aiZ,ak.go,this,ajk];rfl
theorem T9 (re:Re) (hf:re.cN=true):re.every l5=true->∀(A:List Bool) (look:Bool),A.length=10->aM Try.prog 36 [kj re,kV A,bV look] (bV (re.dW A look)):=by
 revert hf;refine Re.ind (Q:=λre=>re.cN=true->re.every l5=true->∀(A:List Bool) (look:Bool),A.length=10->aM Try.prog 36 [kj re,kV A,bV look] (bV (re.dW A look))) (λre ih0 hf hs A look hA=>?_) re;obtain⟨_,_,Hc⟩:=Re.fT hf;have ih:∀k∈re.kids,k.every l5=true->∀(A:List Bool) (look:Bool),A.length=10->aM Try.prog 36 [kj k,kV A,bV look] (bV (k.dW A look)):=λk hk=>ih0 k hk (Hc k hk);clear ih0;obtain⟨ef,fU⟩:=(Re.av re).1 hs;obtain⟨q1,q2,q3,q4,q5,q6,q7,q8,q9,ji,jh,nS,Ao,q14,_⟩:=iO.1 ef;have oq:re.op=6\/re.op=10\/re.op=9\/re.op=4\/re.op=5\/re.op=7\/re.op=8\/re.op=0\/re.op=1\/re.op=2\/re.op=3\/re.op=11:=ae;rw[Re.JK];rcases oq with o|o|o|o|o|o|o|o|o|o|o|o
 case inl|inr.inl|inr.inr.inl=>rw[tK];unfold kV;refine bk Try.func36 Try.ntmps36 Try.results36 0 62122406972767 ?_;simp only[zI,simprocAttr,aq re,iD,bD,bV,o];all_goals rfl
 case inr.inr.inr.inl =>
  rw[bd];obtain⟨x,hx⟩:∃x,re.kids=[x]:=List.length_eq_one_iff.1 (q1 ae);have vV:re.kids[0]?=some x:=by rw[hx];rfl
  have dZ:(0:Int)<(re.kids.length:Int):=by rw[hx];simp
  have hnu:=Kj x (Hc x (by rw[hx];simp));have hxa:Re.EI re.kids=x.iQ:=by rw[hx];simp [Re.EI]
  simp only[bV,bD]at hnu;by_cases hm:re.mode=2
  ·rw[be ⟨o,.inl hm⟩];unfold kV;refine bk Try.func36 Try.ntmps36 Try.results36 0 62122406972767 ?_;simp only[zI,simprocAttr,aq re,iD,bD,bV,o,hm];all_goals rfl
  ·cases hxn:x.iQ with
   |true =>
    rw[be ⟨o,.inr (by rw[hxa,hxn])⟩];unfold kV;refine bk Try.func36 Try.ntmps36 Try.results36 0 62122406972767 ?_;simp only[zI,simprocAttr,aq re,iD,bD,bV,o,hm,aiW,dZ,vV];refine bO hnu ?_;simp only[zI,simprocAttr,aq re,iD,bD,bV,o,hm,hxn];all_goals rfl
   |false =>
    rw[ap (λh=>h.2.elim hm (by rw[hxa,hxn];simp)),bd,bd,show (look||decide (re.op=7\/re.op=8))=look by rw[ce ae,akq]];obtain⟨A2,xj⟩:∃A2,A2=A:=⟨_,rfl⟩
    obtain⟨Bp,x5⟩:∃l,l=look:=⟨_,rfl⟩
    have pI:A2.length=10:=by rw[xj];exact hA
    have xU:∀k∈re.kids,k.dW A2 Bp=false->(re.kids.all λk=>k.dW A look)=false:=λk hk h=>by subst xj x5;rw[akr];exact⟨k,hk,by simp [h]⟩
    have Eb:(∀k∈re.kids,k.dW A2 Bp=true)->(re.kids.all λk=>k.dW A look)=true:=λh=>by subst xj x5;rw[ajo];exact h
    unfold kV;refine bk Try.func36 Try.ntmps36 Try.results36 0 62122406972767 ?_;simp only[zI,simprocAttr,aq re,iD,bD,bV,o,hm,aiW,dZ,vV];refine bO hnu ?_;simp only[zI,simprocAttr,aq re,iD,bD,bV,o,hm,hxn];refine ay (λn e s=>∃i:Nat,n=re.kids.length-i/\i<=re.kids.length/\e 2=bV Bp/\e 3=.rf 0 0 0 0/\e 4=.rf 1 0 0 0/\e 43=.d (.sl (re.kids.map Re.cells))/\e 44=i64 re.kids.length/\e 45=i64 i/\(∀x∈re.kids.take i,x.dW A2 Bp=true)/\s=[aI re,eM A2])
     ⟨_,_,_,bJ.refl,0,rfl,ae,by first|rfl|(subst x5;rfl),rfl,rfl,rfl,rfl,rfl,aj,by first|(simp [aI,eM,iD,bD,Re.ah re,o,pI];done)|(subst xj;simp [aI,eM,bV,bD,iD,Re.ah re,o];done)|(rw[<- xj];simp [aI,eM,bV,bD,iD,Re.ah re,o];done)|(simp [aI,eM,bV,bD,iD,Re.ah re,o,xj];done)|(simp [aI,eM,bV,bD,iD,Re.ah re,xj];done)⟩ ?_
    rintro n e s ⟨i,rfl,hi,h2,h3,h4,rZ,A8,DF,bK,rfl⟩;rcases ajr i re.kids.length with aB|iA
    ·obtain⟨k,hk⟩:∃k,re.kids[i]?=some k:=bZ aB;have hm:=ai4 hk;have aH:(i:Int)<(re.kids.length:Int):=ae;have hi0:(0:Int)<=(i:Int):=ae;have dt:=ih k hm (fU k hm) A2 Bp pI;have Ok:List.take 10 (A2.map bV)=A2.map bV:=ajb (by rw[aiW];omega);unfold kV at dt;simp only[bV,bD]at dt;simp only[zX,simprocAttr,aI,eM,Re.ah re,aiZ,ai2,iD,bD,bV,h2,h3,h4,rZ,A8,DF,i64,aH,hi0,aB,hk,pI,Ok,aiW,aiY,ai3,ai1];refine bp dt (by rw[aq];simp [ak,ak.go,i64,zr]) rfl ?_;cases dZ:k.dW A2 Bp with
     |false =>
      rw[xU k hm dZ];simp only[zX,simprocAttr,aI,eM,Re.ah re,aiZ,ai2,iD,bD,bV,h2,h3,h4,rZ,A8,DF,i64,ajd];all_goals rfl
     |true =>
      simp only[zX,simprocAttr,aI,eM,Re.ah re,aiZ,ai2,iD,bD,bV,h2,h3,h4,rZ,A8,DF,i64,aje];refine⟨re.kids.length-(i+1),_,_,ae,bJ.cut (s':=[aI re,eM A2]) 2 ae (by simp [aI,eM,pI,Re.ah re,iD,bD]) (by simp [aI,eM,bV,bc,Re.ah re,ak]) [2,3,4,43,44,45] (by simp [bX,aY,ak,h2,h3,h4,rZ,A8,DF,i64,bV]),i+1,rfl,aB,?_,?_,?_,?_,?_,?_,?_,by simp [aI,eM,pI,Re.ah re,iD,bD]⟩ <;> (try simp only[zU,gV,cy,cJ,dV,reduceIte])
      ·exact h2
      ·exact h3
      ·exact h4
      ·exact rZ
      ·exact A8
      ·rw[bF _ ae];rfl
      ·intro x hx;rcases cC hk hx with h|rfl
       ·exact bK x h
       ·exact dZ
    ·have dY:i=re.kids.length:=by omega
     subst dY;rw[ajt]at bK;rw[Eb bK];simp only[zX,simprocAttr,aI,eM,Re.ah re,aiZ,ai2,iD,bD,bV,h2,h3,h4,rZ,A8,DF,i64,ajZ];all_goals rfl
 case inr.inr.inr.inr.inl =>
  have hn5:=jh o;rw[bd,bd];cases look with
  |true =>
   rw[be ⟨o,.inl rfl⟩];unfold kV;refine bk Try.func36 Try.ntmps36 Try.results36 0 62122406972767 ?_;simp only[zI,simprocAttr,aq re,iD,bD,bV,o];all_goals rfl
  |false =>
   have YT:re.n.toNat<10:=ae;have n0:(0:Int)<=re.n:=ae;have n1:re.n<((10:Nat):Int):=ae;have n2:re.n<10:=ae;generalize hm:re.n.toNat=m at YT;obtain⟨y,hy⟩:∃y,A[m]?=some y:=bZ;have hyd:A.getD m false=y:=by rw[aja,hy];rfl
   obtain⟨tl,QN⟩:∃tl,(A.map bV).drop m=.d (.sc (.bool y))::tl:=⟨_,by rw[List.drop_eq_getElem_cons (by simpa [hA]using YT)];congr 1;rw[List.getElem_map];congr 1;exact(List.getElem?_eq_some_iff.1 hy).2⟩
   cases y with
   |true =>
    rw[be ⟨o,.inr hyd⟩];unfold kV;refine bk Try.func36 Try.ntmps36 Try.results36 0 62122406972767 ?_;simp only[zI,simprocAttr,aq re,iD,bD,bV,o,hm,n0,n1,n2,hA,QN,ai7,Nat.mul_one,ai1,aiW];all_goals rfl
   |false =>
    have gD:List.take m (A.map bV)++[.d (.sc (.bool true))]++List.drop (m+1) (A.map bV)=(A.set m true).map bV:=by rw[akv,List.set_eq_take_append_cons_drop,be (by simpa [hA]using YT)];simp [bV,bD]
    rw[ap (λh=>h.2.elim aj (by rw[hyd];simp)),be o,show (false||decide (re.op=7\/re.op=8))=false by rw[ce ae];rfl];obtain⟨A2,xj⟩:∃A2,A2=A.set m true:=⟨_,rfl⟩
    obtain⟨Bp,x5⟩:∃l,l=false:=⟨_,rfl⟩
    have pI:A2.length=10:=by rw[xj];simp [hA]
    have xU:∀k∈re.kids,k.dW A2 Bp=false->(re.kids.all λk=>k.dW (A.set m true) false)=false:=λk hk h=>by subst xj;subst x5;rw[akr];exact⟨k,hk,by simp [h]⟩
    have Eb:(∀k∈re.kids,k.dW A2 Bp=true)->(re.kids.all λk=>k.dW (A.set m true) false)=true:=λh=>by subst xj;subst x5;rw[ajo];exact h
    rw[<- xj]at gD;unfold kV;refine bk Try.func36 Try.ntmps36 Try.results36 0 62122406972767 ?_;simp only[zI,simprocAttr,aq re,iD,bD,bV,o,hm,n0,n1,n2,hA,QN,ai7,Nat.mul_one,ai1,aiW,gD];refine⟨ae,?_⟩;refine ay (λn e s=>∃i:Nat,n=re.kids.length-i/\i<=re.kids.length/\e 2=bV Bp/\e 3=.rf 0 0 0 0/\e 4=.rf 1 0 0 0/\e 43=.d (.sl (re.kids.map Re.cells))/\e 44=i64 re.kids.length/\e 45=i64 i/\(∀x∈re.kids.take i,x.dW A2 Bp=true)/\s=[aI re,eM A2])
     ⟨_,_,_,bJ.refl,0,rfl,ae,by first|rfl|(subst x5;rfl),rfl,rfl,rfl,rfl,rfl,aj,by first|(simp [aI,eM,iD,bD,Re.ah re,o,pI];done)|(subst xj;simp [aI,eM,bV,bD,iD,Re.ah re,o];done)|(rw[<- xj];simp [aI,eM,bV,bD,iD,Re.ah re,o];done)|(simp [aI,eM,bV,bD,iD,Re.ah re,o,xj];done)|(simp [aI,eM,bV,bD,iD,Re.ah re,xj];done)⟩ ?_
    rintro n e s ⟨i,rfl,hi,h2,h3,h4,rZ,A8,DF,bK,rfl⟩;rcases ajr i re.kids.length with aB|iA
    ·obtain⟨k,hk⟩:∃k,re.kids[i]?=some k:=bZ aB;have hm:=ai4 hk;have aH:(i:Int)<(re.kids.length:Int):=ae;have hi0:(0:Int)<=(i:Int):=ae;have dt:=ih k hm (fU k hm) A2 Bp pI;have Ok:List.take 10 (A2.map bV)=A2.map bV:=ajb (by rw[aiW];omega);unfold kV at dt;simp only[bV,bD]at dt;simp only[zX,simprocAttr,aI,eM,Re.ah re,aiZ,ai2,iD,bD,bV,h2,h3,h4,rZ,A8,DF,i64,aH,hi0,aB,hk,pI,Ok,aiW,aiY,ai3,ai1];refine bp dt (by rw[aq];simp [ak,ak.go,i64,zr]) rfl ?_;cases dZ:k.dW A2 Bp with
     |false =>
      rw[xU k hm dZ];simp only[zX,simprocAttr,aI,eM,Re.ah re,aiZ,ai2,iD,bD,bV,h2,h3,h4,rZ,A8,DF,i64,ajd];all_goals rfl
     |true =>
      simp only[zX,simprocAttr,aI,eM,Re.ah re,aiZ,ai2,iD,bD,bV,h2,h3,h4,rZ,A8,DF,i64,aje];refine⟨re.kids.length-(i+1),_,_,ae,bJ.cut (s':=[aI re,eM A2]) 2 ae (by simp [aI,eM,pI,Re.ah re,iD,bD]) (by simp [aI,eM,bV,bc,Re.ah re,ak]) [2,3,4,43,44,45] (by simp [bX,aY,ak,h2,h3,h4,rZ,A8,DF,i64,bV]),i+1,rfl,aB,?_,?_,?_,?_,?_,?_,?_,by simp [aI,eM,pI,Re.ah re,iD,bD]⟩ <;> (try simp only[zU,gV,cy,cJ,dV,reduceIte])
      ·exact h2
      ·exact h3
      ·exact h4
      ·exact rZ
      ·exact A8
      ·rw[bF _ ae];rfl
      ·intro x hx;rcases cC hk hx with h|rfl
       ·exact bK x h
       ·exact dZ
    ·have dY:i=re.kids.length:=by omega
     subst dY;rw[ajt]at bK;rw[Eb bK];simp only[zX,simprocAttr,aI,eM,Re.ah re,aiZ,ai2,iD,bD,bV,h2,h3,h4,rZ,A8,DF,i64,ajZ];all_goals rfl
 case inr.inr.inr.inr.inr.inl|inr.inr.inr.inr.inr.inr.inl =>
  rw[bd,bd,bd,bd,show (look||decide (re.op=7\/re.op=8))=true by rw[bi ae,Bool.or_true]];obtain⟨A2,xj⟩:∃A2,A2=A:=⟨_,rfl⟩
  obtain⟨Bp,x5⟩:∃l,l=true:=⟨_,rfl⟩
  have pI:A2.length=10:=by rw[xj];simp [hA]
  have xU:∀k∈re.kids,k.dW A2 Bp=false->(re.kids.all λk=>k.dW A true)=false:=λk hk h=>by subst xj;subst x5;rw[akr];exact⟨k,hk,by simp [h]⟩
  have Eb:(∀k∈re.kids,k.dW A2 Bp=true)->(re.kids.all λk=>k.dW A true)=true:=λh=>by subst xj;subst x5;rw[ajo];exact h
  unfold kV;refine bk Try.func36 Try.ntmps36 Try.results36 0 62122406972767 ?_;simp only[zI,simprocAttr,aq re,iD,bD,bV,o];refine ay (λn e s=>∃i:Nat,n=re.kids.length-i/\i<=re.kids.length/\e 2=bV Bp/\e 3=.rf 0 0 0 0/\e 4=.rf 1 0 0 0/\e 43=.d (.sl (re.kids.map Re.cells))/\e 44=i64 re.kids.length/\e 45=i64 i/\(∀x∈re.kids.take i,x.dW A2 Bp=true)/\s=[aI re,eM A2])
   ⟨_,_,_,bJ.refl,0,rfl,ae,by first|rfl|(subst x5;rfl),rfl,rfl,rfl,rfl,rfl,aj,by first|(simp [aI,eM,iD,bD,Re.ah re,o,pI];done)|(subst xj;simp [aI,eM,bV,bD,iD,Re.ah re,o];done)|(rw[<- xj];simp [aI,eM,bV,bD,iD,Re.ah re,o];done)|(simp [aI,eM,bV,bD,iD,Re.ah re,o,xj];done)|(simp [aI,eM,bV,bD,iD,Re.ah re,xj];done)⟩ ?_
  rintro n e s ⟨i,rfl,hi,h2,h3,h4,rZ,A8,DF,bK,rfl⟩;rcases ajr i re.kids.length with aB|iA
  ·obtain⟨k,hk⟩:∃k,re.kids[i]?=some k:=bZ aB;have hm:=ai4 hk;have aH:(i:Int)<(re.kids.length:Int):=ae;have hi0:(0:Int)<=(i:Int):=ae;have dt:=ih k hm (fU k hm) A2 Bp pI;have Ok:List.take 10 (A2.map bV)=A2.map bV:=ajb (by rw[aiW];omega);unfold kV at dt;simp only[bV,bD]at dt;simp only[zX,simprocAttr,aI,eM,Re.ah re,aiZ,ai2,iD,bD,bV,h2,h3,h4,rZ,A8,DF,i64,aH,hi0,aB,hk,pI,Ok,aiW,aiY,ai3,ai1];refine bp dt (by rw[aq];simp [ak,ak.go,i64,zr]) rfl ?_;cases dZ:k.dW A2 Bp with
   |false =>
    rw[xU k hm dZ];simp only[zX,simprocAttr,aI,eM,Re.ah re,aiZ,ai2,iD,bD,bV,h2,h3,h4,rZ,A8,DF,i64,ajd];all_goals rfl
   |true =>
    simp only[zX,simprocAttr,aI,eM,Re.ah re,aiZ,ai2,iD,bD,bV,h2,h3,h4,rZ,A8,DF,i64,aje];refine⟨re.kids.length-(i+1),_,_,ae,bJ.cut (s':=[aI re,eM A2]) 2 ae (by simp [aI,eM,pI,Re.ah re,iD,bD]) (by simp [aI,eM,bV,bc,Re.ah re,ak]) [2,3,4,43,44,45] (by simp [bX,aY,ak,h2,h3,h4,rZ,A8,DF,i64,bV]),i+1,rfl,aB,?_,?_,?_,?_,?_,?_,?_,by simp [aI,eM,pI,Re.ah re,iD,bD]⟩ <;> (try simp only[zU,gV,cy,cJ,dV,reduceIte])
    ·exact h2
    ·exact h3
    ·exact h4
    ·exact rZ
    ·exact A8
    ·rw[bF _ ae];rfl
    ·intro x hx;rcases cC hk hx with h|rfl
     ·exact bK x h
     ·exact dZ
  ·have dY:i=re.kids.length:=by omega
   subst dY;rw[ajt]at bK;rw[Eb bK];simp only[zX,simprocAttr,aI,eM,Re.ah re,aiZ,ai2,iD,bD,bV,h2,h3,h4,rZ,A8,DF,i64,ajZ];all_goals rfl
 all_goals
  rw[bd,bd,bd,bd,show (look||decide (re.op=7\/re.op=8))=look by rw[ce ae,akq]];obtain⟨A2,xj⟩:∃A2,A2=A:=⟨_,rfl⟩
  obtain⟨Bp,x5⟩:∃l,l=look:=⟨_,rfl⟩
  have pI:A2.length=10:=by rw[xj];simp [hA]
  have xU:∀k∈re.kids,k.dW A2 Bp=false->(re.kids.all λk=>k.dW A look)=false:=λk hk h=>by subst xj;subst x5;rw[akr];exact⟨k,hk,by simp [h]⟩
  have Eb:(∀k∈re.kids,k.dW A2 Bp=true)->(re.kids.all λk=>k.dW A look)=true:=λh=>by subst xj;subst x5;rw[ajo];exact h
  unfold kV;refine bk Try.func36 Try.ntmps36 Try.results36 0 62122406972767 ?_;simp only[zI,simprocAttr,aq re,iD,bD,bV,o];refine ay (λn e s=>∃i:Nat,n=re.kids.length-i/\i<=re.kids.length/\e 2=bV Bp/\e 3=.rf 0 0 0 0/\e 4=.rf 1 0 0 0/\e 43=.d (.sl (re.kids.map Re.cells))/\e 44=i64 re.kids.length/\e 45=i64 i/\(∀x∈re.kids.take i,x.dW A2 Bp=true)/\s=[aI re,eM A2])
   ⟨_,_,_,bJ.refl,0,rfl,ae,by first|rfl|(subst x5;rfl),rfl,rfl,rfl,rfl,rfl,aj,by first|(simp [aI,eM,iD,bD,Re.ah re,o,pI];done)|(subst xj;simp [aI,eM,bV,bD,iD,Re.ah re,o];done)|(rw[<- xj];simp [aI,eM,bV,bD,iD,Re.ah re,o];done)|(simp [aI,eM,bV,bD,iD,Re.ah re,o,xj];done)|(simp [aI,eM,bV,bD,iD,Re.ah re,xj];done)⟩ ?_
  rintro n e s ⟨i,rfl,hi,h2,h3,h4,rZ,A8,DF,bK,rfl⟩;rcases ajr i re.kids.length with aB|iA
  ·obtain⟨k,hk⟩:∃k,re.kids[i]?=some k:=bZ aB;have hm:=ai4 hk;have aH:(i:Int)<(re.kids.length:Int):=ae;have hi0:(0:Int)<=(i:Int):=ae;have dt:=ih k hm (fU k hm) A2 Bp pI;have Ok:List.take 10 (A2.map bV)=A2.map bV:=ajb (by rw[aiW];omega);unfold kV at dt;simp only[bV,bD]at dt;simp only[zX,simprocAttr,aI,eM,Re.ah re,aiZ,ai2,iD,bD,bV,h2,h3,h4,rZ,A8,DF,i64,aH,hi0,aB,hk,pI,Ok,aiW,aiY,ai3,ai1];refine bp dt (by rw[aq];simp [ak,ak.go,i64,zr]) rfl ?_;cases dZ:k.dW A2 Bp with
   |false =>
    rw[xU k hm dZ];simp only[zX,simprocAttr,aI,eM,Re.ah re,aiZ,ai2,iD,bD,bV,h2,h3,h4,rZ,A8,DF,i64,ajd];all_goals rfl
   |true =>
    simp only[zX,simprocAttr,aI,eM,Re.ah re,aiZ,ai2,iD,bD,bV,h2,h3,h4,rZ,A8,DF,i64,aje];refine⟨re.kids.length-(i+1),_,_,ae,bJ.cut (s':=[aI re,eM A2]) 2 ae (by simp [aI,eM,pI,Re.ah re,iD,bD]) (by simp [aI,eM,bV,bc,Re.ah re,ak]) [2,3,4,43,44,45] (by simp [bX,aY,ak,h2,h3,h4,rZ,A8,DF,i64,bV]),i+1,rfl,aB,?_,?_,?_,?_,?_,?_,?_,by simp [aI,eM,pI,Re.ah re,iD,bD]⟩ <;> (try simp only[zU,gV,cy,cJ,dV,reduceIte])
    ·exact h2
    ·exact h3
    ·exact h4
    ·exact rZ
    ·exact A8
    ·rw[bF _ ae];rfl
    ·intro x hx;rcases cC hk hx with h|rfl
     ·exact bK x h
     ·exact dZ
  ·have dY:i=re.kids.length:=by omega
   subst dY;rw[ajt]at bK;rw[Eb bK];simp only[zX,simprocAttr,aI,eM,Re.ah re,aiZ,ai2,iD,bD,bV,h2,h3,h4,rZ,A8,DF,i64,ajZ];all_goals rfl
end Go.Proofs.Ytfmdmlfhigocaaa
