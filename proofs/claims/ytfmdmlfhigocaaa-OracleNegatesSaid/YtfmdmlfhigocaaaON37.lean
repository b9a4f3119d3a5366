/- A part of the proof (F40 F41 F32 F33 F43 F44 F46). -/
import Derived.Test.YtfmdmlfhigocaaaON13
import Derived.Test.YtfmdmlfhigocaaaON14
import Derived.Test.YtfmdmlfhigocaaaON20
import Derived.Test.YtfmdmlfhigocaaaON24
import Derived.Test.YtfmdmlfhigocaaaON25
set_option linter.unusedSimpArgs false
set_option linter.unusedVariables false
open Nat renaming reduceShiftRight → cQ, reduceMod → dx, reduceEqDiff → eI, reduceBEq → gj
open Int renaming reduceEq → mA
set_option maxRecDepth 100000
set_option maxHeartbeats 80000000
namespace Go.Proofs.Ytfmdmlfhigocaaa
open Go.VL Go.Proofs.Try
end Go.Proofs.Ytfmdmlfhigocaaa
namespace Go.Proofs.Ytfmdmlfhigocaaa
open Go.VL Go.Proofs.Try
def nY (op mode:Int) (b:Bool):Int :=
 if op=6 then 1 else if op=10 then 2 else if op=7\/op=8 then 4 else if op=9 then 8 else if op=11 then 16 else if op=5 then 64
 else if op=4 then (if b=true then ew .or .i64 (if mode=2 then 8 else 0) 32 else (if mode=2 then 8 else 0))
 else 0
def lA:List Re->Bool
 |[]=>false
 |k::_=>k.vl
mutual
def Re.m9:Re->Int
 |.mk op _ kids _ _ mode _ _=>Re.lY kids (nY op mode (lA kids))
def Re.lY:List Re->Int->Int
 |[],a=>a
 |k::l,a=>Re.lY l (ew .or .i64 a k.m9)
end
theorem Re.Ie (re:Re):re.m9=Re.lY re.kids (nY re.op re.mode (lA re.kids)):=by
 cases re;simp [Re.m9,Re.op,Re.mode,Re.kids]
theorem Re.pk:∀(l:List Re) (k:Re) (a:Int),Re.lY (l++[k]) a=ew .or .i64 (Re.lY l a) k.m9
 |[],k,a=>by simp [Re.lY]
 |x::l,k,a=>by simp only[afQ,Re.lY,Re.pk l k]
theorem Bf (re:Re) (hs:re.size<=1000000000):aO prog 72 [fv re] (i64 re.m9):=by
 revert hs;refine Re.ind (Q:=λre=>re.size<=1000000000->aO prog 72 [fv re] (i64 re.m9)) (λre ih hs=>?_) re;have hlen:=Re.lO re.kids;have fF:=Re.size_eq re;rw[Re.Ie];have rM:re.op=6\/re.op=10\/re.op=7\/re.op=8\/re.op=9\/re.op=11\/re.op=5\/re.op=4\/(¬re.op=6/\¬re.op=10/\¬re.op=7/\¬re.op=8/\¬re.op=9/\¬re.op=11/\¬re.op=5/\¬re.op=4):=by omega
 rcases rM with p|p|p|p|p|p|p|p|p
 case inr.inr.inr.inr.inr.inr.inr.inl =>
  have hb:∀u:Int,(u=nY 4 re.mode (lA re.kids))->u=nY re.op re.mode (lA re.kids):=λu h=>by rw[p];exact h
  have h01:(0:Int)<re.kids.length\/re.kids=[]:=by
   cases re.kids with
   |nil=>exact .inr rfl
   |cons k l=>exact .inl (by simp)
  rw[p];rcases h01 with hp|DE
  ·obtain⟨k0,l0,wF⟩:∃k l,re.kids=k::l:=by
    cases h:re.kids with
    |nil=>rw[h]at hp;simp at hp
    |cons k l=>exact⟨k,l,rfl⟩
   have eL:re.kids[0]?=some k0:=by rw[wF];rfl
   have wI:k0∈re.kids:=by rw[wF];simp
   have jv:=gJ k0 (by have:=Re.bL wI;omega);have hh:lA re.kids=k0.vl:=by rw[wF];rfl
   rw[hh];by_cases Gi:re.mode=2;all_goals
    cases cU:k0.vl;all_goals
     simp only[nY,Gi,mA,if_true,if_false,reduceIte,or_true,true_or,or_false,false_or,reduceCtorEq];refine an func72 rfl ntmps72 results72 rfl 0 2143 (by simp) (by simp) ?_;simp only[zW,simprocAttr,i64,ai re,iD,bD,p,Gi,hp,eL];refine aj jv (by simp [ah,ah.go,ai,i64,bV,aM]) (by simp [ah,ah.go,ai,i64,bV,aM]) ?_;simp only[zW,simprocAttr,i64,bV,cU,Gi];refine au (λn e s=>∃i:Nat,n=re.kids.length-i/\i<=re.kids.length/\e 1=.rf 0 0 0 0/\e 3=i64 (Re.lY (re.kids.take i) _)/\e 4=i64 i/\s=[⟨0,true,8,[re.cells.map .d]⟩])
      ⟨_,_,_,br.refl,0,rfl,by omega,rfl,rfl,rfl,by first|simp [Re.ae re,iD,bD,p,Gi]|simp [Re.ae re,iD,bD]⟩ ?_
     rintro n e s ⟨i,rfl,hi,h1,h3,h4,rfl⟩;rcases agi i re.kids.length with az|fI
     ·obtain⟨k,hk⟩:∃k,re.kids[i]?=some k:=⟨_,afP az⟩
      have hm:=afW hk;have wC:=Re.bL hm;simp only[zW,simprocAttr,i64,Re.ae re,iD,bD,h1,h3,h4,az,hk];refine aj (ih k hm (by omega)) (by simp [ah,ah.go,ai,i64,bV,aM]) (by simp [ah,ah.go,ai,i64,bV,aM]) ?_;simp only[zW,simprocAttr,i64,Re.ae re,iD,bD,h1,h3,h4];refine⟨re.kids.length-(i+1),_,_,by omega,br.refl,i+1,rfl,az,?_,?_,?_,rfl⟩ <;> (try simp only[zU,gj,cQ,dx,eI,reduceIte])
      ·exact h1
      ·rw[aR hk,Re.pk]
      ·rw[bd _ (by omega)];rfl
     ·have cV:i=re.kids.length:=by omega
      subst cV;rw[agj]at h3;simp only[zW,simprocAttr,i64,Re.ae re,iD,bD,h1,h3,h4,agK];all_goals first|exact⟨rfl,rfl⟩|exact⟨rfl,trivial⟩|rfl|trivial|(rw[ai];rfl)
  ·rw[show lA re.kids=false by rw[DE];rfl];have gp:¬(0:Int)<re.kids.length:=by rw[DE];simp
   by_cases Gi:re.mode=2;all_goals
    simp only[nY,Gi,mA,if_true,if_false,reduceIte,or_true,true_or,or_false,false_or,reduceCtorEq];refine an func72 rfl ntmps72 results72 rfl 0 2143 (by simp) (by simp) ?_;simp only[zW,simprocAttr,i64,ai re,iD,bD,p,Gi,gp];refine au (λn e s=>∃i:Nat,n=re.kids.length-i/\i<=re.kids.length/\e 1=.rf 0 0 0 0/\e 3=i64 (Re.lY (re.kids.take i) _)/\e 4=i64 i/\s=[⟨0,true,8,[re.cells.map .d]⟩])
     ⟨_,_,_,br.refl,0,rfl,by omega,rfl,rfl,rfl,by first|simp [Re.ae re,iD,bD,p,Gi]|simp [Re.ae re,iD,bD]⟩ ?_
    rintro n e s ⟨i,rfl,hi,h1,h3,h4,rfl⟩;rcases agi i re.kids.length with az|fI
    ·obtain⟨k,hk⟩:∃k,re.kids[i]?=some k:=⟨_,afP az⟩
     have hm:=afW hk;have wC:=Re.bL hm;simp only[zW,simprocAttr,i64,Re.ae re,iD,bD,h1,h3,h4,az,hk];refine aj (ih k hm (by omega)) (by simp [ah,ah.go,ai,i64,bV,aM]) (by simp [ah,ah.go,ai,i64,bV,aM]) ?_;simp only[zW,simprocAttr,i64,Re.ae re,iD,bD,h1,h3,h4];refine⟨re.kids.length-(i+1),_,_,by omega,br.refl,i+1,rfl,az,?_,?_,?_,rfl⟩ <;> (try simp only[zU,gj,cQ,dx,eI,reduceIte])
     ·exact h1
     ·rw[aR hk,Re.pk]
     ·rw[bd _ (by omega)];rfl
    ·have cV:i=re.kids.length:=by omega
     subst cV;rw[agj]at h3;simp only[zW,simprocAttr,i64,Re.ae re,iD,bD,h1,h3,h4,agK];all_goals first|exact⟨rfl,rfl⟩|exact⟨rfl,trivial⟩|rfl|trivial|(rw[ai];rfl)
 all_goals
  first
   |(obtain⟨p1,p2,p3,p4,p5,p6,p7,p8⟩:=p
     have hu:nY re.op re.mode (lA re.kids)=0:=by simp [nY,p1,p2,p3,p4,p5,p6,p7,p8]
     rw[hu];refine an func72 rfl ntmps72 results72 rfl 0 2143 (by simp) (by simp) ?_;simp only[zW,simprocAttr,i64,ai re,iD,bD,p1,p2,p3,p4,p5,p6,p7,p8])
   |(rw[p]
     simp only[nY,mA,if_true,if_false,reduceIte,or_true,true_or,or_false,false_or,reduceCtorEq];refine an func72 rfl ntmps72 results72 rfl 0 2143 (by simp) (by simp) ?_;simp only[zW,simprocAttr,i64,ai re,iD,bD,p])
 all_goals
  refine au (λn e s=>∃i:Nat,n=re.kids.length-i/\i<=re.kids.length/\e 1=.rf 0 0 0 0/\e 3=i64 (Re.lY (re.kids.take i) _)/\e 4=i64 i/\s=[⟨0,true,8,[re.cells.map .d]⟩])
   ⟨_,_,_,br.refl,0,rfl,by omega,rfl,rfl,rfl,by first|simp [Re.ae re,iD,bD,p]|simp [Re.ae re,iD,bD]⟩ ?_
  rintro n e s ⟨i,rfl,hi,h1,h3,h4,rfl⟩;rcases agi i re.kids.length with az|fI
  ·obtain⟨k,hk⟩:∃k,re.kids[i]?=some k:=⟨_,afP az⟩
   have hm:=afW hk;have wC:=Re.bL hm;simp only[zW,simprocAttr,i64,Re.ae re,iD,bD,h1,h3,h4,az,hk];refine aj (ih k hm (by omega)) (by simp [ah,ah.go,ai,i64,bV,aM]) (by simp [ah,ah.go,ai,i64,bV,aM]) ?_;simp only[zW,simprocAttr,i64,Re.ae re,iD,bD,h1,h3,h4];refine⟨re.kids.length-(i+1),_,_,by omega,br.refl,i+1,rfl,az,?_,?_,?_,rfl⟩ <;> (try simp only[zU,gj,cQ,dx,eI,reduceIte])
   ·exact h1
   ·rw[aR hk,Re.pk]
   ·rw[bd _ (by omega)];rfl
  ·have cV:i=re.kids.length:=by omega
   subst cV;rw[agj]at h3;simp only[zW,simprocAttr,i64,Re.ae re,iD,bD,h1,h3,h4,agK];all_goals first|exact⟨rfl,rfl⟩|exact⟨rfl,trivial⟩|rfl|trivial|(rw[ai];rfl)
theorem VJ {n m:Nat} (hn:n<128) (hm:m<128):ew .or .i64 (n:Int) (m:Int)=((n ||| m:Nat):Int)/\n ||| m<128:=by
 have az:n ||| m<2 ^ 7:=Nat.or_lt_two_pow hn hm;refine⟨?_,az⟩;have e:∀k:Nat,k<128->(BitVec.ofInt IntKind.i64.bits (k:Int)).toNat=k:=by intro k hk;show (BitVec.ofInt 64 (k:Int)).toNat=k;rw[BitVec.ofInt_natCast,BitVec.toNat_ofNat];omega
 simp only[ew,BitVec.toNat_or,e n hn,e m hm];exact bd _ (by omega)
def GJ (p:ic):List D:=p.re.cells++[iD p.ak,bD p.aN]
theorem iK (p:ic):GJ p=[iD p.re.op,.sl (p.re.set.map aV),.sl (p.re.kids.map Re.cells),iD p.re.mn,iD p.re.mx,iD p.re.mode,iD p.re.n,bD p.re.neg,iD p.ak,bD p.aN]:=by unfold GJ;rw[Re.ae];rfl
theorem Rj (b:Bool):aO prog 66 [bV b] (i64 (gz b)):=by
 refine an func66 rfl ntmps66 results66 rfl 0 5 (by simp) (by simp) ?_;cases b
 ·simp only[zX,simprocAttr,i64,bV,gz,age]
 ·simp only[zX,simprocAttr,i64,bV,gz]
def FI (re:Re):Bool:=decide (0<=re.mn/\re.mn<=32/\0<=re.mode/\re.mode<=2/\(re.mx=-1\/(1<=re.mx/\re.mx<=32/\re.mn<=re.mx)))
theorem KQ (re:Re):aO prog 93 [aM re] (bV (FI re)):=by
 refine an func93 rfl ntmps93 results93 rfl 0 5 (by simp) (by simp) ?_;simp only[zX,simprocAttr,i64,aM,Re.ae re,iD,bD]
 repeat' (first
 |(with_reducible refine And.intro (by first|omega|exact⟨by omega,by omega⟩|(simp;done)) ?_)
 |(with_reducible first|refine kB (λhc=>?_) (λhc=>?_)|refine dM (λhc=>?_) (λhc=>?_)|refine dL (λhc=>?_) (λhc=>?_)|refine cX (λhc=>?_) (λhc=>?_)|refine cW (λhc=>?_) (λhc=>?_)|refine g8 (λhc=>?_) (λhc=>?_)|refine dG (λhc=>?_) (λhc=>?_))<;>simp only[zX,simprocAttr,i64,iD,bD,hc])
 any_goals
  refine ar mix [] [] (by rfl) ?_;simp only[zX,simprocAttr,i64,iD,bD]
 any_goals
  repeat' (first
 |(with_reducible refine And.intro (by first|omega|exact⟨by omega,by omega⟩|(simp;done)) ?_)
 |(with_reducible first|refine kB (λhc=>?_) (λhc=>?_)|refine dM (λhc=>?_) (λhc=>?_)|refine dL (λhc=>?_) (λhc=>?_)|refine cX (λhc=>?_) (λhc=>?_)|refine cW (λhc=>?_) (λhc=>?_)|refine g8 (λhc=>?_) (λhc=>?_)|refine dG (λhc=>?_) (λhc=>?_))<;>simp only[zX,simprocAttr,i64,iD,bD,hc])
 all_goals first
  |(refine congrArg bV (Eq.symm (b6 λh=>?_));omega)
  |(refine congrArg bV (Eq.symm (bi ?_));omega)
  |(refine congrArg bV (Eq.symm (decide_eq_decide.2 ?_));omega)
  |(refine congrArg bV (Eq.symm (decide_eq_decide.2 ?_));constructor <;> intro h <;> omega)
theorem Cg (l:List (Int×Int)) (hl:l.length<=1000000000) (top:Int) (ht:top<=1114111):aO prog 92 [.d (.sl (l.map aV)),i64 top] (bV (gZ l top)):=by
 refine an func92 rfl ntmps92 results92 rfl 0 7283 (by simp) (by simp) ?_;by_cases Ox:(64:Int)<l.length
 ·simp only[zX,simprocAttr,i64,Ox];have:¬l.length<=64:=by omega
  simp [gZ,bV,this]
 have UY:l.length<=64:=by omega
 have hR:gZ l top=qG top (-2) l:=by simp [gZ,UY]
 rw[hR];simp only[zX,simprocAttr,i64,Ox];refine au (λn e s=>∃i:Nat,n=l.length-i/\i<=l.length/\e 0=.d (.sl (l.map aV))/\e 1=i64 top/\e 10=.d (.sl (l.map aV))/\e 11=i64 l.length/\e 12=i64 i/\s=[]/\qG top (-2) l=qG top (lu l i) (l.drop i)/\(0<i->0<=lu l i/\lu l i<=top))
  ⟨_,_,_,br.refl,0,rfl,by omega,rfl,rfl,rfl,rfl,rfl,rfl,rfl,λh=>absurd h (by omega)⟩ ?_
 rintro n e s ⟨i,rfl,hi,h0,h1,du,jH,jn,rfl,oz,mU⟩;rcases agi i l.length with az|fI
 ·obtain⟨k,hk⟩:∃k,l[i]?=some k:=⟨_,afP az⟩
  have hd:l.drop i=k::l.drop (i+1):=by rw[List.drop_eq_getElem_cons az];rw[afP az]at hk;simp only[afY]at hk;rw[hk]
  rw[hd]at oz;simp only[qG]at oz;have y3:lu l (i+1)=k.2:=by simp [lu,hk]
  simp only[zX,simprocAttr,i64,h0,h1,du,jH,jn,az,hk,aV,iD];refine ar mix [] [] (by rfl) ?_;cases i with
  |zero =>
   have oz:qG top (-2) l=(decide (0<=k.1/\k.1<=k.2/\k.2<=top/\-2+1<k.1)&&qG top k.2 (l.drop (0+1))):=oz;simp only[zX,simprocAttr,i64,h0,h1,du,jH,jn,hk,aV,iD,agk]
   repeat' (first
 |(with_reducible refine And.intro (by first|omega|exact⟨by omega,by omega⟩|(simp;done)) ?_)
 |(with_reducible first|refine kB (λhc=>?_) (λhc=>?_)|refine dM (λhc=>?_) (λhc=>?_)|refine dL (λhc=>?_) (λhc=>?_)|refine cX (λhc=>?_) (λhc=>?_)|refine cW (λhc=>?_) (λhc=>?_)|refine g8 (λhc=>?_) (λhc=>?_)|refine dG (λhc=>?_) (λhc=>?_))<;>simp only[zX,simprocAttr,i64,h0,h1,du,jH,jn,hk,aV,iD,agk,hc])
   any_goals (refine congrArg bV (Eq.symm ?_);rw[oz,show decide (0<=k.1/\k.1<=k.2/\k.2<=top/\-2+1<k.1)=false from b6 (by omega)];rfl)
   refine⟨l.length-1,_,_,by omega,br.cut 0 (by omega) rfl rfl [0,1,10,11,12] ?_,1,rfl,az,?_,?_,?_,?_,?_,rfl,?_,?_⟩ <;> (try simp only[zU,gj,cQ,dx,eI,reduceIte])
   ·simp [bz,aH,ah,h0,h1,du,jH,i64]
   ·exact h0
   ·exact h1
   ·exact du
   ·exact jH
   ·rw[bd _ (by omega)];rfl
   ·rw[oz,y3,show decide (0<=k.1/\k.1<=k.2/\k.2<=top/\-2+1<k.1)=true from bi (by omega)];rfl
   ·intro _;rw[y3];omega
  |succ j =>
   obtain⟨kp,FV⟩:∃k,l[j]?=some k:=⟨_,afP (by omega:j<l.length)⟩
   have Vy:lu l (j+1)=kp.2:=by simp [lu,FV]
   have mU:=mU (by omega);rw[Vy]at mU oz;have w1:IntKind.i64.wrap (((j+1:Nat):Int)-1)=(j:Int):=by rw[bd _ (by omega)];omega
   have w2:IntKind.i64.wrap (kp.2+2)=kp.2+2:=bd _ (by omega);have p0:(0:Int)<((j+1:Nat):Int):=by omega
   have q2:(j:Int)<l.length:=by omega
   simp only[zX,simprocAttr,i64,h0,h1,du,jH,jn,hk,aV,iD,FV,w1,w2,p0,q2]
   repeat' (first
 |(with_reducible refine And.intro (by first|omega|exact⟨by omega,by omega⟩|(simp;done)) ?_)
 |(with_reducible first|refine kB (λhc=>?_) (λhc=>?_)|refine dM (λhc=>?_) (λhc=>?_)|refine dL (λhc=>?_) (λhc=>?_)|refine cX (λhc=>?_) (λhc=>?_)|refine cW (λhc=>?_) (λhc=>?_)|refine g8 (λhc=>?_) (λhc=>?_)|refine dG (λhc=>?_) (λhc=>?_))<;>simp only[zX,simprocAttr,i64,h0,h1,du,jH,jn,hk,aV,iD,FV,w1,w2,p0,q2,hc])
   any_goals (refine congrArg bV (Eq.symm ?_);rw[oz,show decide (0<=k.1/\k.1<=k.2/\k.2<=top/\kp.2+1<k.1)=false from b6 (by omega)];rfl)
   refine⟨l.length-(j+1+1),_,_,by omega,br.cut 0 (by omega) rfl rfl [0,1,10,11,12] ?_,j+1+1,rfl,az,?_,?_,?_,?_,?_,rfl,?_,?_⟩ <;> (try simp only[zU,gj,cQ,dx,eI,reduceIte])
   ·simp [bz,aH,ah,h0,h1,du,jH,i64]
   ·exact h0
   ·exact h1
   ·exact du
   ·exact jH
   ·rw[bd _ (by omega)];rfl
   ·rw[oz,y3,show decide (0<=k.1/\k.1<=k.2/\k.2<=top/\kp.2+1<k.1)=true from bi (by omega)];rfl
   ·intro _;rw[y3];omega
 ·have cV:i=l.length:=by omega
  subst cV;simp only[zX,simprocAttr,i64,h0,h1,du,jH,jn,agK];rw[oz];simp [qG,bV]
end Go.Proofs.Ytfmdmlfhigocaaa
