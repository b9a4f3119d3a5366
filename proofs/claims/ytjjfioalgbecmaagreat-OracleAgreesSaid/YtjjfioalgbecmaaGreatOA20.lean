/- A part of the proof. -/
import Derived.Test.YtjjfioalgbecmaaGreatOA15
set_option linter.unusedSimpArgs false
set_option linter.unusedVariables false
open Nat renaming reduceShiftRight → qa, reduceMod → qe, reduceEqDiff → Fp, reduceBEq → Ft
open Int renaming reduceEq → FD
set_option maxRecDepth 100000
set_option maxHeartbeats 80000000
namespace Go.Proofs.YtjjfioalgbecmaaGreat
open Go.VL Go.Proofs.Tryz
end Go.Proofs.YtjjfioalgbecmaaGreat
namespace Go.Proofs.YtjjfioalgbecmaaGreat
open Go.VL Go.Proofs.Tryz
def pD (op mode:Int) (b:Bool):Int :=
 if op=6 then 1 else if op=10 then 2 else if op=7\/op=8 then 4 else if op=9 then 8 else if op=11 then 16 else if op=5 then 64
 else if op=4 then (if b=true then jf .or .i64 (if mode=2 then 8 else 0) 32 else (if mode=2 then 8 else 0))
 else 0
def jE:List Re->Bool
 |[]=>false
 |k::_=>k.sQ
mutual
def Re.ov:Re->Int
 |.mk op _ kids _ _ mode _ _=>Re.nm kids (pD op mode (jE kids))
def Re.nm:List Re->Int->Int
 |[],a=>a
 |k::l,a=>Re.nm l (jf .or .i64 a k.ov)
end
theorem Re.Ld (re:Re):re.ov=Re.nm re.kids (pD re.op re.mode (jE re.kids)):=by
 cases re;simp [Re.ov,Re.op,Re.mode,Re.kids]
theorem Re.qG:∀(l:List Re) (k:Re) (a:Int),Re.nm (l++[k]) a=jf .or .i64 (Re.nm l a) k.ov
 |[],k,a=>by simp [Re.nm]
 |x::l,k,a=>by simp only[ak5,Re.nm,Re.qG l k]
theorem Dy (re:Re) (hs:re.size<=1000000000):aS prog 50 [lI re] (i64 re.ov):=by
 revert hs;refine Re.ind (Q:=λre=>re.size<=1000000000->aS prog 50 [lI re] (i64 re.ov)) (λre ih hs=>?_) re;have hlen:=Re.mX re.kids;have gr:=Re.size_eq re;rw[Re.Ld];have mV:re.op=6\/re.op=10\/re.op=7\/re.op=8\/re.op=9\/re.op=11\/re.op=5\/re.op=4\/(¬re.op=6/\¬re.op=10/\¬re.op=7/\¬re.op=8/\¬re.op=9/\¬re.op=11/\¬re.op=5/\¬re.op=4):=ae;rcases mV with p|p|p|p|p|p|p|p|p
 case inr.inr.inr.inr.inr.inr.inr.inl =>
  have hb:∀u:Int,(u=pD 4 re.mode (jE re.kids))->u=pD re.op re.mode (jE re.kids):=λu h=>by rw[p];exact h
  have h01:(0:Int)<re.kids.length\/re.kids=[]:=by
   cases re.kids with
   |nil=>exact .inr rfl
   |cons k l=>exact .inl aq
  rw[p];rcases h01 with hp|GA
  ·obtain⟨k0,l0,wY⟩:∃k l,re.kids=k::l:=by
    cases h:re.kids with
    |nil=>rw[h]at hp;simp at hp
    |cons k l=>exact⟨k,l,rfl⟩
   have jX:re.kids[0]?=some k0:=by rw[wY];rfl
   have Dm:k0∈re.kids:=by rw[wY];simp
   have ka:=iF k0 (by have:=Re.bZ Dm;omega);have hh:jE re.kids=k0.sQ:=by rw[wY];rfl
   rw[hh];by_cases Jo:re.mode=2;all_goals
    cases ej:k0.sQ;all_goals
     simp only[pD,Jo,FD,if_true,if_false,reduceIte,or_true,true_or,or_false,false_or,reduceCtorEq];refine br func50 ntmps50 results50 0 2143 ?_;simp only[zJ,simprocAttr,au re,iD,bD,p,Jo,hp,jX];refine dk ka ?_;simp only[zJ,simprocAttr,bV,ej,Jo];refine ay (λn e s=>∃i:Nat,n=re.kids.length-i/\i<=re.kids.length/\e 1=.rf 0 0 0 0/\e 3=i64 (Re.nm (re.kids.take i) _)/\e 4=i64 i/\s=[⟨0,true,8,[re.cells.map .d]⟩])
      ⟨_,_,_,bO.refl,0,rfl,ae,rfl,rfl,rfl,by first|simp [Re.ah re,iD,bD,p,Jo]|simp [Re.ah re,iD,bD]⟩ ?_
     rintro n e s ⟨i,rfl,hi,h1,h3,h4,rfl⟩;rcases alw i re.kids.length with aE|gE
     ·obtain⟨k,hk⟩:∃k,re.kids[i]?=some k:=cb aE;have hm:=List.mem_of_getElem? hk;have IF:=Re.bZ hm;simp only[zJ,simprocAttr,Re.ah re,iD,bD,h1,h3,h4,aE,hk];refine dk (ih k hm ae) ?_;simp only[zJ,simprocAttr,Re.ah re,iD,bD,h1,h3,h4];refine⟨re.kids.length-(i+1),_,_,ae,bO.refl,i+1,rfl,aE,?_,?_,?_,rfl⟩ <;> (try simp only[zU,Ft,qa,qe,Fp,reduceIte])
      ·exact h1
      ·rw[bn hk,Re.qG]
      ·rw[bK _ ae];rfl
     ·have eg:i=re.kids.length:=by omega
      subst eg;rw[alr]at h3;simp only[zJ,simprocAttr,Re.ah re,iD,bD,h1,h3,h4,al5];all_goals exact dX
  ·rw[show jE re.kids=false by rw[GA];rfl];have fS:¬(0:Int)<re.kids.length:=by rw[GA];simp
   by_cases Jo:re.mode=2;all_goals
    simp only[pD,Jo,FD,if_true,if_false,reduceIte,or_true,true_or,or_false,false_or,reduceCtorEq];refine br func50 ntmps50 results50 0 2143 ?_;simp only[zJ,simprocAttr,au re,iD,bD,p,Jo,fS];refine ay (λn e s=>∃i:Nat,n=re.kids.length-i/\i<=re.kids.length/\e 1=.rf 0 0 0 0/\e 3=i64 (Re.nm (re.kids.take i) _)/\e 4=i64 i/\s=[⟨0,true,8,[re.cells.map .d]⟩])
     ⟨_,_,_,bO.refl,0,rfl,ae,rfl,rfl,rfl,by first|simp [Re.ah re,iD,bD,p,Jo]|simp [Re.ah re,iD,bD]⟩ ?_
    rintro n e s ⟨i,rfl,hi,h1,h3,h4,rfl⟩;rcases alw i re.kids.length with aE|gE
    ·obtain⟨k,hk⟩:∃k,re.kids[i]?=some k:=cb aE;have hm:=List.mem_of_getElem? hk;have IF:=Re.bZ hm;simp only[zJ,simprocAttr,Re.ah re,iD,bD,h1,h3,h4,aE,hk];refine dk (ih k hm ae) ?_;simp only[zJ,simprocAttr,Re.ah re,iD,bD,h1,h3,h4];refine⟨re.kids.length-(i+1),_,_,ae,bO.refl,i+1,rfl,aE,?_,?_,?_,rfl⟩ <;> (try simp only[zU,Ft,qa,qe,Fp,reduceIte])
     ·exact h1
     ·rw[bn hk,Re.qG]
     ·rw[bK _ ae];rfl
    ·have eg:i=re.kids.length:=by omega
     subst eg;rw[alr]at h3;simp only[zJ,simprocAttr,Re.ah re,iD,bD,h1,h3,h4,al5];all_goals exact dX
 all_goals
  first
   |(obtain⟨p1,p2,p3,p4,p5,p6,p7,p8⟩:=p
     have hu:pD re.op re.mode (jE re.kids)=0:=by simp [pD,p1,p2,p3,p4,p5,p6,p7,p8]
     rw[hu];refine br func50 ntmps50 results50 0 2143 ?_;simp only[zJ,simprocAttr,au re,iD,bD,p1,p2,p3,p4,p5,p6,p7,p8])
   |(rw[p]
     simp only[pD,FD,if_true,if_false,reduceIte,or_true,true_or,or_false,false_or,reduceCtorEq];refine br func50 ntmps50 results50 0 2143 ?_;simp only[zJ,simprocAttr,au re,iD,bD,p])
 all_goals
  refine ay (λn e s=>∃i:Nat,n=re.kids.length-i/\i<=re.kids.length/\e 1=.rf 0 0 0 0/\e 3=i64 (Re.nm (re.kids.take i) _)/\e 4=i64 i/\s=[⟨0,true,8,[re.cells.map .d]⟩])
   ⟨_,_,_,bO.refl,0,rfl,ae,rfl,rfl,rfl,by first|simp [Re.ah re,iD,bD,p]|simp [Re.ah re,iD,bD]⟩ ?_
  rintro n e s ⟨i,rfl,hi,h1,h3,h4,rfl⟩;rcases alw i re.kids.length with aE|gE
  ·obtain⟨k,hk⟩:∃k,re.kids[i]?=some k:=cb aE;have hm:=List.mem_of_getElem? hk;have IF:=Re.bZ hm;simp only[zJ,simprocAttr,Re.ah re,iD,bD,h1,h3,h4,aE,hk];refine dk (ih k hm ae) ?_;simp only[zJ,simprocAttr,Re.ah re,iD,bD,h1,h3,h4];refine⟨re.kids.length-(i+1),_,_,ae,bO.refl,i+1,rfl,aE,?_,?_,?_,rfl⟩ <;> (try simp only[zU,Ft,qa,qe,Fp,reduceIte])
   ·exact h1
   ·rw[bn hk,Re.qG]
   ·rw[bK _ ae];rfl
  ·have eg:i=re.kids.length:=by omega
   subst eg;rw[alr]at h3;simp only[zJ,simprocAttr,Re.ah re,iD,bD,h1,h3,h4,al5];all_goals exact dX
def JA (re:Re):Bool:=decide (0<=re.op/\re.op<=11/\(re.op=4->re.kids.length=1/\0<=re.mn/\re.mn<=32/\(re.mx=-1\/(1<=re.mx/\re.mx<=32/\re.mn<=re.mx))) /\
 (re.op=3\/re.op=10\/re.op=5\/re.op=9->re.kids≠[])/\(re.op=5\/re.op=9->re.kids.length=1))
theorem RR {re:Re}{aj top:Int} (h:bX re aj top=true):JA re=true:=by
 obtain⟨⟨h1,h2,h3,h4⟩,_,h5,_,_⟩:=eZ.1 h;refine bi ⟨h1,h2,λo=>?_,λo=>?_,λo=>?_⟩
 ·rw[o]at h3 h4 h5;simp only[cE,FD,or_self,if_false,or_true,true_or,or_false,false_or,if_true,reduceIte]at h3 h4 h5;omega
 ·intro hn;rw[hn]at h3;rcases o with o|o|o|o <;> rw[o]at h3 <;> simp [cE]at h3
 ·rcases o with o|o;all_goals
   rw[o]at h3 h4;simp only[cE,FD,or_self,if_false,or_true,true_or,or_false,false_or,if_true,reduceIte]at h3 h4;omega
theorem RA {re:Re}{aj top:Int} (h:re.whole aj top=true):re.every JA=true:=iN (λ_=>RR) re h
theorem abr (re:Re) (h:re.every JA=true):LR re.iM re.lens:=by
 revert h;refine Re.ind (Q:=λre=>re.every JA=true->LR re.iM re.lens) (λre ih h=>?_) re;obtain⟨h1,h2⟩:=(Re.az re).1 h;obtain⟨o0,mZ,h4,eX,_⟩:=of_decide_eq_true h1;have hk:∀k∈re.kids,LR k.iM k.lens:=λk hk=>ih k hk (h2 k hk);have hp:∀x∈re.kids.map (λk=>(k.iM,k.lens)),LR x.1 x.2:=λx hx=>by obtain⟨k,vD,rfl⟩:=List.mem_map.1 hx;exact hk k vD
 rw[Re.sh,Re.Xy];have m1:(re.kids.map (λk=>(k.iM,k.lens))).map (·.1)=re.kids.map Re.iM:=aq;have m2:(re.kids.map (λk=>(k.iM,k.lens))).map (·.2)=re.kids.map Re.lens:=aq;have alt:re.kids≠[]->LR ((re.kids.map Re.iM).any id) (R8 (re.kids.map Re.lens)):=λhn=>by
  obtain⟨k,l,wY⟩:=List.exists_cons_of_ne_nil hn;have dw:=hk k (by rw[wY];simp);have:=H3 (l.map λk=>(k.iM,k.lens)) k.iM k.lens dw (λx hx=>by
   obtain⟨y,hy,rfl⟩:=List.mem_map.1 hx;exact hk y (by rw[wY];simp [hy]))
  rw[wY];simp only[ak8,R8,RV dw,List.any_cons,id_eq];simpa [alH,Function.comp_def]using this
 have Aq:re.op=0\/re.op=1\/re.op=2\/re.op=3\/re.op=4\/re.op=5\/re.op=6\/re.op=7\/re.op=8\/re.op=9\/re.op=10\/re.op=11:=ae;have zz:LR true (0,0):=⟨aF,aF,aF,aF,.inr aF,aF⟩
 rcases Aq with o|o|o|o|o|o|o|o|o|o|o|o
 ·rw[o];exact zz
 ·have one:LR false (1,1):=⟨aF,aF,aF,aF,.inr aF,aF⟩
  rw[o];exact one
 ·have:=Hd _ true (0,0) zz hp;rw[m1,m2,al6]at this;rw[o];exact this
 ·have:=alt (eX (.inl o));rw[o];exact this
 ·obtain⟨q1,q2,q3,q4⟩:=h4 o;have:=alt (by intro he;rw[he]at q1;cases q1);rw[o];simp only[pU,NJ];generalize R8 (re.kids.map Re.lens)=p at *;generalize (re.kids.map Re.iM).any id=na at *;obtain⟨a0,a1,b0,b1,ab,nl⟩:=this;have e1:=X4 a0 a1 q2 ae;have e2:0<=p.1*re.mn:=amn a0 q2;simp only[reduceCtorEq,FD,if_false,false_or,or_false,or_self,if_true,true_or,or_true];have key:(kU p.2 re.mx=-1\/(0<=kU p.2 re.mx/\kU p.1 re.mn<=kU p.2 re.mx))/\kU p.2 re.mx<=1000000:=by
   by_cases hm:re.mx=-1
   ·rw[hm];by_cases hb:p.2=0
    ·have ha:p.1=0:=by omega
     rw[hb,ha,MF,MF];omega
    ·rw[Zz hb];omega
   ·have q5:1<=re.mx/\re.mx<=32/\re.mn<=re.mx:=by omega
    by_cases hb:p.2=-1
    ·rw[hb,ZD ae];omega
    ·rw[X4 ae b1 ae ae,e1];have:p.1*re.mn<=p.2*re.mx:=Int.mul_le_mul ae q5.2.2 q2 ae;have:=amn (show 0<=p.2 by omega) (show 0<=re.mx by omega);omega
  refine⟨?_,?_,?_,key.2,?_,?_⟩ <;> simp only
  ·rw[e1];omega
  ·rw[e1];omega
  ·omega
  ·omega
  ·rw[e1];split
   ·rename_i hm;rw[hm,Int.mul_zero];exact⟨λ_=>ae,λ_=>rfl⟩
   ·rename_i hm;rw[nl];constructor
    ·intro hz;rw[hz,Int.zero_mul];omega
    ·intro hz;by_cases YZ:p.1=0
     ·exact YZ
     ·have:0<p.1*re.mn:=Int.mul_pos ae ae;omega
 ·have:=alt (eX (.inr (.inr (.inl o))));rw[o];exact this
 ·have far:LR true (0,-1):=⟨aF,aF,aF,aF,.inl aF,aF⟩
  rw[o];exact far
 ·rw[o];exact zz
 ·rw[o];exact zz
 ·have:=alt (eX (.inr (.inr (.inr o))));rw[o];exact this
 ·have:=alt (eX (.inr (.inl o)));rw[o];exact this
 ·rw[o];exact zz
theorem IX {l:List Re} (h:l.length=1):∃k,l=[k]:=by
 match l,h with
 |[k],_=>exact⟨k,rfl⟩
theorem UG (re:Re) (h:re.every JA=true):re.iM=re.sQ:=by
 revert h;refine Re.ind (Q:=λre=>re.every JA=true->re.iM=re.sQ) (λre ih h=>?_) re;obtain⟨h1,h2⟩:=(Re.az re).1 h;obtain⟨o0,mZ,h4,h5,h6⟩:=of_decide_eq_true h1;have hm:re.kids.map Re.iM=re.kids.map Re.sQ:=alK (λk hk=>ih k hk (h2 k hk));rw[Re.sh,Re.jr,hm,Re.sU,Re.sK];have Aq:re.op=0\/re.op=1\/re.op=2\/re.op=3\/re.op=4\/re.op=5\/re.op=6\/re.op=7\/re.op=8\/re.op=9\/re.op=10\/re.op=11:=ae;rcases Aq with o|o|o|o|o|o|o|o|o|o|o|o
 case inr.inr.inr.inr.inl =>
  obtain⟨q1,q2,_⟩:=h4 o;obtain⟨k,hk⟩:=IX q1;rw[o,hk];by_cases hz:re.mn=0
  ·simp [pU,hz]
  ·have:¬re.mn<=0:=by omega
   simp [pU,hz,this,Re.qb]
 case inr.inr.inr.inr.inr.inl =>
  obtain⟨k,hk⟩:=IX (h6 (.inl o));rw[o,hk];simp [pU,Re.qb]
 case inr.inr.inr.inr.inr.inr.inr.inr.inr.inl =>
  obtain⟨k,hk⟩:=IX (h6 (.inr o));rw[o,hk];simp [pU,Re.qb]
 all_goals (rw[o];simp [pU])
 all_goals (try (congr 1))
theorem aaL {n m:Nat} (hn:n<128) (hm:m<128):jf .or .i64 (n:Int) (m:Int)=((n ||| m:Nat):Int)/\n ||| m<128:=by
 have aE:n ||| m<2 ^ 7:=Nat.or_lt_two_pow hn hm;refine⟨?_,aE⟩;have e:∀k:Nat,k<128->(BitVec.ofInt IntKind.i64.bits (k:Int)).toNat=k:=by intro k hk;show (BitVec.ofInt 64 (k:Int)).toNat=k;rw[BitVec.ofInt_natCast,BitVec.toNat_ofNat];omega
 simp only[jf,BitVec.toNat_or,e n hn,e m hm];exact bK _ ae
def Fl (p:fU):List D:=p.re.cells++[iD p.aj,bD p.aM]
theorem jC (p:fU):Fl p=[iD p.re.op,.sl (p.re.set.map aU),.sl (p.re.kids.map Re.cells),iD p.re.mn,iD p.re.mx,iD p.re.mode,iD p.re.n,bD p.re.neg,iD p.aj,bD p.aM]:=by unfold Fl;rw[Re.ah];rfl
theorem Vp (b:Bool):aS prog 43 [bV b] (i64 (e8 b)):=by
 refine br func43 ntmps43 results43 0 5 ?_;cases b
 ·simp only[zI,simprocAttr,bV,e8,alk]
 ·simp only[zI,simprocAttr,bV,e8]
def IV (re:Re):Bool:=decide (0<=re.mn/\re.mn<=32/\0<=re.mode/\re.mode<=2/\(re.mx=-1\/(1<=re.mx/\re.mx<=32/\re.mn<=re.mx)))
theorem NZ (re:Re):aS prog 87 [fY re] (bV (IV re)):=by
 refine br func87 ntmps87 results87 0 5 ?_;simp only[zI,simprocAttr,fY,Re.ah re,iD,bD]
 repeat' (first
 |(with_reducible refine And.intro tx ?_)
 |(with_reducible first|refine lq (λhc=>?_) (λhc=>?_)|refine eB (λhc=>?_) (λhc=>?_)|refine eA (λhc=>?_) (λhc=>?_)|refine dy (λhc=>?_) (λhc=>?_)|refine dx (λhc=>?_) (λhc=>?_)|refine iW (λhc=>?_) (λhc=>?_)|refine eu (λhc=>?_) (λhc=>?_))<;>simp only[zI,simprocAttr,iD,bD,hc])
 any_goals
  refine cP mix [] [] ?_;simp only[zI,simprocAttr,iD,bD]
 any_goals
  repeat' (first
 |(with_reducible refine And.intro tx ?_)
 |(with_reducible first|refine lq (λhc=>?_) (λhc=>?_)|refine eB (λhc=>?_) (λhc=>?_)|refine eA (λhc=>?_) (λhc=>?_)|refine dy (λhc=>?_) (λhc=>?_)|refine dx (λhc=>?_) (λhc=>?_)|refine iW (λhc=>?_) (λhc=>?_)|refine eu (λhc=>?_) (λhc=>?_))<;>simp only[zI,simprocAttr,iD,bD,hc])
 all_goals first
  |(refine congrArg bV (Eq.symm (ce λh=>?_));omega)
  |(refine congrArg bV (Eq.symm (bi ?_));omega)
  |(refine congrArg bV (Eq.symm (decide_eq_decide.2 ?_));omega)
  |(refine congrArg bV (Eq.symm (decide_eq_decide.2 ?_));constructor <;> intro h <;> omega)
theorem EF (l:List (Int×Int)) (hl:l.length<=1000000000) (top:Int) (ht:top<=1114111):aS prog 86 [.d (.sl (l.map aU)),i64 top] (bV (iV l top)):=by
 refine br func86 ntmps86 results86 0 7283 ?_;by_cases Sm:(64:Int)<l.length
 ·exact Zdj
 have ZQ:l.length<=64:=ae;have hR:iV l top=sy top (-2) l:=by simp [iV,ZQ]
 rw[hR];simp only[zI,simprocAttr,Sm];refine ay (λn e s=>∃i:Nat,n=l.length-i/\i<=l.length/\e 0=.d (.sl (l.map aU))/\e 1=i64 top/\e 10=.d (.sl (l.map aU))/\e 11=i64 l.length/\e 12=i64 i/\s=[]/\sy top (-2) l=sy top (mq l i) (l.drop i)/\(0<i->0<=mq l i/\mq l i<=top))
  ⟨_,_,_,bO.refl,0,rfl,ae,rfl,rfl,rfl,rfl,rfl,rfl,rfl,λh=>absurd h ae⟩ ?_
 rintro n e s ⟨i,rfl,hi,h0,h1,ek,kr,jk,rfl,lQ,n8⟩;rcases alw i l.length with aE|gE
 ·obtain⟨k,hk⟩:∃k,l[i]?=some k:=cb aE;have hd:l.drop i=k::l.drop (i+1):=by rw[List.drop_eq_getElem_cons aE];rw[List.getElem?_eq_getElem aE]at hk;simp only[alb]at hk;rw[hk]
  rw[hd]at lQ;simp only[sy]at lQ;have zK:mq l (i+1)=k.2:=by simp [mq,hk]
  simp only[zI,simprocAttr,h0,h1,ek,kr,jk,aE,hk,aU,iD];refine cP mix [] [] ?_;cases i with
  |zero =>
   have lQ:sy top (-2) l=(decide (0<=k.1/\k.1<=k.2/\k.2<=top/\-2+1<k.1)&&sy top k.2 (l.drop (0+1))):=lQ;simp only[zI,simprocAttr,h0,h1,ek,kr,jk,hk,aU,iD,alv]
   repeat' (first
 |(with_reducible refine And.intro tx ?_)
 |(with_reducible first|refine lq (λhc=>?_) (λhc=>?_)|refine eB (λhc=>?_) (λhc=>?_)|refine eA (λhc=>?_) (λhc=>?_)|refine dy (λhc=>?_) (λhc=>?_)|refine dx (λhc=>?_) (λhc=>?_)|refine iW (λhc=>?_) (λhc=>?_)|refine eu (λhc=>?_) (λhc=>?_))<;>simp only[zI,simprocAttr,h0,h1,ek,kr,jk,hk,aU,iD,alv,hc])
   any_goals (refine congrArg bV (Eq.symm ?_);rw[lQ,show decide (0<=k.1/\k.1<=k.2/\k.2<=top/\-2+1<k.1)=false from ce ae];rfl)
   refine⟨l.length-1,_,_,ae,bO.cut 0 ae rfl rfl [0,1,10,11,12] ?_,1,rfl,aE,?_,?_,?_,?_,?_,rfl,?_,?_⟩ <;> (try simp only[zU,Ft,qa,qe,Fp,reduceIte])
   ·simp [ca,aZ,ak,h0,h1,ek,kr,i64]
   ·exact h0
   ·exact h1
   ·exact ek
   ·exact kr
   ·rw[bK _ ae];rfl
   ·rw[lQ,zK,show decide (0<=k.1/\k.1<=k.2/\k.2<=top/\-2+1<k.1)=true from bi ae];rfl
   ·intro _;rw[zK];omega
  |succ j =>
   obtain⟨kp,Ea⟩:∃k,l[j]?=some k:=⟨_,List.getElem?_eq_getElem (by omega:j<l.length)⟩
   have hpe:mq l (j+1)=kp.2:=by simp [mq,Ea]
   have n8:=n8 ae;rw[hpe]at n8 lQ;have w1:IntKind.i64.wrap (((j+1:Nat):Int)-1)=(j:Int):=by rw[bK _ ae];omega
   have w2:IntKind.i64.wrap (kp.2+2)=kp.2+2:=bK _ ae;have p0:(0:Int)<((j+1:Nat):Int):=ae;have q2:(j:Int)<l.length:=ae;simp only[zI,simprocAttr,h0,h1,ek,kr,jk,hk,aU,iD,Ea,w1,w2,p0,q2]
   repeat' (first
 |(with_reducible refine And.intro tx ?_)
 |(with_reducible first|refine lq (λhc=>?_) (λhc=>?_)|refine eB (λhc=>?_) (λhc=>?_)|refine eA (λhc=>?_) (λhc=>?_)|refine dy (λhc=>?_) (λhc=>?_)|refine dx (λhc=>?_) (λhc=>?_)|refine iW (λhc=>?_) (λhc=>?_)|refine eu (λhc=>?_) (λhc=>?_))<;>simp only[zI,simprocAttr,h0,h1,ek,kr,jk,hk,aU,iD,Ea,w1,w2,p0,q2,hc])
   any_goals (refine congrArg bV (Eq.symm ?_);rw[lQ,show decide (0<=k.1/\k.1<=k.2/\k.2<=top/\kp.2+1<k.1)=false from ce ae];rfl)
   refine⟨l.length-(j+1+1),_,_,ae,bO.cut 0 ae rfl rfl [0,1,10,11,12] ?_,j+1+1,rfl,aE,?_,?_,?_,?_,?_,rfl,?_,?_⟩ <;> (try simp only[zU,Ft,qa,qe,Fp,reduceIte])
   ·simp [ca,aZ,ak,h0,h1,ek,kr,i64]
   ·exact h0
   ·exact h1
   ·exact ek
   ·exact kr
   ·rw[bK _ ae];rfl
   ·rw[lQ,zK,show decide (0<=k.1/\k.1<=k.2/\k.2<=top/\kp.2+1<k.1)=true from bi ae];rfl
   ·intro _;rw[zK];omega
 ·have eg:i=l.length:=by omega
  subst eg;simp only[zI,simprocAttr,h0,h1,ek,kr,jk,al5];rw[lQ];simp [sy,bV]
theorem T8 (re:Re) (hf:re.df=true) (aj top:Int) (ht:top<=1114111) (xh:re.op=1\/re.op=4\/(¬re.op=0/\¬re.op=1/\¬re.op=2/\¬re.op=3/\¬re.op=4/\¬re.op=5/\¬re.op=6/\¬re.op=7/\¬re.op=8/\¬re.op=9/\¬re.op=10/\¬re.op=11)):aS prog 45 [fY re,i64 aj,i64 top] (bV (bX re aj top)):=by
 obtain⟨rm,hlen,JR⟩:=Re.gK hf;have lQ:=EF re.set rm top ht;have hbo:=NZ re;rw[fY,Re.ah]at hbo;simp only[i64,iD,bD]at lQ hbo;rcases xh with p|p|⟨p0,p1,p2,p3,p4,p5,p6,p7,p8,p9,p10,p11⟩
 case inr.inr =>
  rw[show bX re aj top=false by simp only[bX];rw[ce ae];rfl];by_cases n1:1<=re.n
  ·by_cases n2:re.n<=aj
   ·exact ZbM
   ·exact ZbM
  ·refine br func45 ntmps45 results45 0 77371252473350734410155975 ?_;simp only[zI,simprocAttr,fY,Re.ah re,iD,bD,p0,p1,p2,p3,p4,p5,p6,p7,p8,p9,p10,p11,n1];all_goals exact dX
 case inl =>
  generalize hv:iV re.set top=sv at lQ;cases sv;all_goals
   refine br func45 ntmps45 results45 0 77371252473350734410155975 ?_;simp only[zI,simprocAttr,fY,Re.ah re,iD,bD,p,alf,alv]
   repeat' (first
 |(with_reducible refine And.intro tx ?_)
 |(with_reducible first|refine lq (λhc=>?_) (λhc=>?_)|refine eB (λhc=>?_) (λhc=>?_)|refine eA (λhc=>?_) (λhc=>?_)|refine dy (λhc=>?_) (λhc=>?_)|refine dx (λhc=>?_) (λhc=>?_)|refine iW (λhc=>?_) (λhc=>?_)|refine eu (λhc=>?_) (λhc=>?_))<;>simp only[zI,simprocAttr,iD,bD,p,alf,alv,hc])
  any_goals
   refine dk lQ ?_;simp only[zI,simprocAttr,iD,bD,p,bV,alf,alv]
  any_goals
   repeat' (first
 |(with_reducible refine And.intro tx ?_)
 |(with_reducible first|refine lq (λhc=>?_) (λhc=>?_)|refine eB (λhc=>?_) (λhc=>?_)|refine eA (λhc=>?_) (λhc=>?_)|refine dy (λhc=>?_) (λhc=>?_)|refine dx (λhc=>?_) (λhc=>?_)|refine iW (λhc=>?_) (λhc=>?_)|refine eu (λhc=>?_) (λhc=>?_))<;>simp only[zI,simprocAttr,iD,bD,p,bV,alf,alv,hc])
  all_goals
   rcases amq re.neg with dQ|dQ;all_goals
    try (exfalso;rw[dQ]at hc;exact absurd hc aF;done)
    try simp only[dQ,alh,ali]
    first
     |(first|refine congrArg bV (Eq.symm (Bool.eq_false_iff.2 λh=>?_))|refine Eq.symm (Bool.eq_false_iff.2 λh=>?_)
       simp only[bX,cE,p,dQ,FD,or_self,if_false,or_true,true_or,or_false,false_or,if_true,reduceIte,alo,decide_eq_true_eq,alh,ali,alE,alB,reduceCtorEq,alk,false_and,and_false,true_and,and_true,hv]at h;try omega
       done)
     |(first|refine congrArg bV (Eq.symm ?_)|refine Eq.symm ?_
       simp only[bX,cE,p,dQ,FD,or_self,if_false,or_true,true_or,or_false,false_or,if_true,reduceIte,alo,decide_eq_true_eq,alh,ali,alE,alB,reduceCtorEq,alk,false_and,and_false,true_and,and_true,hv];try omega
       done)
 case inr.inl =>
  have T1:IV re=true ↔ (0<=re.mn/\re.mn<=32/\0<=re.mode/\re.mode<=2/\(re.mx=-1\/(1<=re.mx/\re.mx<=32/\re.mn<=re.mx))):=by unfold IV;rw[decide_eq_true_eq]
  generalize hv:IV re=sv at hbo T1;cases sv;all_goals
   simp only[alk,false_iff,true_iff]at T1;refine br func45 ntmps45 results45 0 77371252473350734410155975 ?_;simp only[zI,simprocAttr,fY,Re.ah re,iD,bD,p,alf,alv]
   repeat' (first
 |(with_reducible refine And.intro tx ?_)
 |(with_reducible first|refine lq (λhc=>?_) (λhc=>?_)|refine eB (λhc=>?_) (λhc=>?_)|refine eA (λhc=>?_) (λhc=>?_)|refine dy (λhc=>?_) (λhc=>?_)|refine dx (λhc=>?_) (λhc=>?_)|refine iW (λhc=>?_) (λhc=>?_)|refine eu (λhc=>?_) (λhc=>?_))<;>simp only[zI,simprocAttr,iD,bD,p,alf,alv,hc])
  any_goals
   rw[p]at hbo;refine dk hbo ?_;simp only[zI,simprocAttr,iD,bD,p,bV,alf,alv]
  any_goals
   repeat' (first
 |(with_reducible refine And.intro tx ?_)
 |(with_reducible first|refine lq (λhc=>?_) (λhc=>?_)|refine eB (λhc=>?_) (λhc=>?_)|refine eA (λhc=>?_) (λhc=>?_)|refine dy (λhc=>?_) (λhc=>?_)|refine dx (λhc=>?_) (λhc=>?_)|refine iW (λhc=>?_) (λhc=>?_)|refine eu (λhc=>?_) (λhc=>?_))<;>simp only[zI,simprocAttr,iD,bD,p,bV,alf,alv,hc])
  all_goals
   rcases amq re.neg with dQ|dQ;all_goals
    try (exfalso;rw[dQ]at hc;exact absurd hc aF;done)
    try simp only[dQ,alh,ali]
    first
     |(first|refine congrArg bV (Eq.symm (Bool.eq_false_iff.2 λh=>?_))|refine Eq.symm (Bool.eq_false_iff.2 λh=>?_)
       simp only[bX,cE,p,dQ,FD,or_self,if_false,or_true,true_or,or_false,false_or,if_true,reduceIte,alo,decide_eq_true_eq,alh,ali,alE,alB,reduceCtorEq,alk,false_and,and_false,true_and,and_true]at h;try omega
       done)
     |(first|refine congrArg bV (Eq.symm ?_)|refine Eq.symm ?_
       simp only[bX,cE,p,dQ,FD,or_self,if_false,or_true,true_or,or_false,false_or,if_true,reduceIte,alo,decide_eq_true_eq,alh,ali,alE,alB,reduceCtorEq,alk,false_and,and_false,true_and,and_true];try omega
       done)
theorem Vc (re:Re) (hf:re.df=true) (aj top:Int) (ht:top<=1114111) (xh:re.op=0\/re.op=2\/re.op=3):aS prog 45 [fY re,i64 aj,i64 top] (bV (bX re aj top)):=by
 exact Zai
theorem Vo (re:Re) (hf:re.df=true) (aj top:Int) (ht:top<=1114111) (xh:re.op=5\/re.op=6\/re.op=7):aS prog 45 [fY re,i64 aj,i64 top] (bV (bX re aj top)):=by
 exact Zai
theorem T2 (re:Re) (hf:re.df=true) (aj top:Int) (ht:top<=1114111) (xh:re.op=8\/re.op=9):aS prog 45 [fY re,i64 aj,i64 top] (bV (bX re aj top)):=by
 exact Zaj
theorem U6 (re:Re) (hf:re.df=true) (aj top:Int) (ht:top<=1114111) (xh:re.op=10\/re.op=11):aS prog 45 [fY re,i64 aj,i64 top] (bV (bX re aj top)):=by
 exact Zaj
theorem Ri (re:Re) (hf:re.df=true) (aj top:Int) (ht:top<=1114111):aS prog 45 [fY re,i64 aj,i64 top] (bV (bX re aj top)):=by
 have hc:(re.op=0\/re.op=2\/re.op=3)\/(re.op=5\/re.op=6\/re.op=7)\/(re.op=8\/re.op=9)\/(re.op=10\/re.op=11)\/(re.op=1\/re.op=4\/(¬re.op=0/\¬re.op=1/\¬re.op=2/\¬re.op=3/\¬re.op=4/\¬re.op=5/\¬re.op=6/\¬re.op=7/\¬re.op=8/\¬re.op=9/\¬re.op=10/\¬re.op=11)):=ae;rcases hc with h|h|h|h|h
 ·exact Vc re hf aj top ht h
 ·exact Vo re hf aj top ht h
 ·exact T2 re hf aj top ht h
 ·exact U6 re hf aj top ht h
 ·exact T8 re hf aj top ht h
mutual
def Re.vw (aj top:Int):Re->Int->Int->Bool->Bool×Int×Bool
 |.mk op set kids mn mx mode n neg,d,sz,g =>
  if 256<sz+1\/24<d then (false,sz+1,g) else Re.tR aj top kids (d+1) (sz+1) (g&&bX (.mk op set kids mn mx mode n neg) aj top)
def Re.tR (aj top:Int):List Re->Int->Int->Bool->Bool×Int×Bool
 |[],_,sz,g=>(true,sz,g)
 |k::l,d,sz,g=>if (Re.vw aj top k d sz g).1=true then Re.tR aj top l d (Re.vw aj top k d sz g).2.1 (Re.vw aj top k d sz g).2.2 else Re.vw aj top k d sz g
end
theorem Re.Y3 (aj top:Int) (re:Re) (d sz:Int) (g:Bool):re.vw aj top d sz g=if 256<sz+1\/24<d then (false,sz+1,g) else Re.tR aj top re.kids (d+1) (sz+1) (g&&bX re aj top):=by
 cases re;simp [Re.vw,Re.kids]
theorem Re.yw (aj top:Int):∀(a b:List Re) (d sz:Int) (g:Bool),Re.tR aj top (a++b) d sz g=if (Re.tR aj top a d sz g).1=true then Re.tR aj top b d (Re.tR aj top a d sz g).2.1 (Re.tR aj top a d sz g).2.2 else Re.tR aj top a d sz g
 |[],b,d,sz,g=>by simp [Re.tR]
 |k::a,b,d,sz,g=>by
  simp only[ak5,Re.tR];split
  ·exact Re.yw aj top a b d _ _
  ·rename_i h;first|rfl|rw[ap h]
theorem Re.S5 (aj top:Int) (a:List Re) (k:Re) (d sz:Int) (g:Bool) (h:(Re.tR aj top a d sz g).1=true):Re.tR aj top (a++[k]) d sz g=k.vw aj top d (Re.tR aj top a d sz g).2.1 (Re.tR aj top a d sz g).2.2:=by
 rw[Re.yw,be h];simp only[Re.tR];split
 ·rename_i hk;exact Prod.ext hk.symm rfl
 ·rfl
def ZY (aj top:Int) (re:Re):Prop:=∀(d sz:Int) (g:Bool),0<=sz->sz<=256 ->
 ((re.vw aj top d sz g).1=true ↔ (sz+re.size<=256/\d+re.depth-1<=24))/\0<=(re.vw aj top d sz g).2.1/\(re.vw aj top d sz g).2.1<=257 /\
 ((re.vw aj top d sz g).1=true->(re.vw aj top d sz g).2.1=sz+re.size/\(re.vw aj top d sz g).2.2=(g&&re.whole aj top))
theorem N7 (aj top:Int):∀(l:List Re),(∀k∈l,ZY aj top k)->∀(d sz:Int) (g:Bool),0<=sz->sz<=256 ->
  ((Re.tR aj top l d sz g).1=true ↔ (sz+Re.da l<=256/\∀k∈l,d+k.depth-1<=24))/\0<=(Re.tR aj top l d sz g).2.1/\(Re.tR aj top l d sz g).2.1<=257 /\
  ((Re.tR aj top l d sz g).1=true->(Re.tR aj top l d sz g).2.1=sz+Re.da l/\(Re.tR aj top l d sz g).2.2=(g&&l.all λk=>k.whole aj top))
 |[],_,d,sz,g,h0,h1=>by simp only[Re.tR,Re.da];exact⟨⟨λ_=>⟨ae,λk hk=>by cases hk⟩,λ_=>trivial⟩,h0,ae,λ_=>⟨ae,aq⟩⟩
 |k::l,hk,d,sz,g,h0,h1=>by
  obtain⟨a1,a2,a3,a4⟩:=hk k aq d sz g h0 h1;simp only[Re.tR,Re.da];split
  ·rename_i ht;obtain⟨b1,b2⟩:=a4 ht;obtain⟨c1,c2⟩:=a1.1 ht;obtain⟨e1,e2,e3,e4⟩:=N7 aj top l (λx hx=>hk x (by simp [hx])) d (k.vw aj top d sz g).2.1 (k.vw aj top d sz g).2.2 a2 ae;refine⟨?_,e2,e3,λh=>?_⟩
   ·rw[e1,b1];constructor
    ·rintro ⟨f1,f2⟩;refine⟨ae,λx hx=>?_⟩;rcases List.mem_cons.1 hx with rfl|hx
     ·exact c2
     ·exact f2 x hx
    ·rintro ⟨f1,f2⟩;exact⟨ae,λx hx=>f2 x (by simp [hx])⟩
   ·obtain⟨f1,f2⟩:=e4 h;refine⟨ae,?_⟩;rw[f2,b2,alR,Bool.and_assoc]
  ·rename_i ht;refine⟨⟨λh=>absurd h ht,λ⟨f1,f2⟩=>absurd (a1.2 ⟨ae,f2 k aq⟩) ht⟩,a2,a3,λh=>absurd h ht⟩
theorem IC (re:Re) (b:Int) (hb:0<=b):re.depth-1<=b ↔ ∀k∈re.kids,k.depth<=b:=by
 rw[Re.lZ];constructor
 ·intro h k hk;have:∀(l:List Int) (a x:Int),x∈l->x<=l.foldl max a:=by
   intro l;induction l with
   |nil=>intro a x hx;cases hx
   |cons y l ih =>
    intro a x hx;rcases List.mem_cons.1 hx with rfl|hx
    ·exact Int.le_trans ae (oP l (max a x))
    ·exact ih (max a y) x hx
  have:=this (re.kids.map Re.depth) 0 k.depth (List.mem_map.2 ⟨k,hk,rfl⟩);unfold rV at h;omega
 ·intro h;have:=oL (b:=b) (re.kids.map Re.depth) 0 hb (λx hx=>by obtain⟨k,hk,rfl⟩:=List.mem_map.1 hx;exact h k hk);unfold rV;omega
theorem Yj (aj top:Int) (re:Re):ZY aj top re:=by
 refine Re.ind (Q:=ZY aj top) (λre ih=>?_) re;intro d sz g h0 h1;have hd:=Re.KE re;have hp:=re.size_pos;rw[Re.Y3,Re.size_eq];split
 ·rename_i hc;simp only;refine⟨⟨λh=>(by cases h),λh=>?_⟩,ae,ae,λh=>(by cases h)⟩;have hdp:1<=re.depth:=by rw[Re.lZ];have:=oP (re.kids.map Re.depth) 0;unfold rV;omega
  omega
 ·rename_i hc;obtain⟨a1,a2,a3,a4⟩:=N7 aj top re.kids ih (d+1) (sz+1) (g&&bX re aj top) ae ae;refine⟨?_,a2,a3,λh=>?_⟩
  ·rw[a1];have Un:=IC re (24-d) ae;constructor
   ·rintro ⟨f1,f2⟩;have:=Un.2 (λk hk=>by have:=f2 k hk;omega);omega
   ·rintro ⟨f1,f2⟩;have:=Un.1 ae;exact⟨ae,λk hk=>by have:=this k hk;omega⟩
  ·obtain⟨f1,f2⟩:=a4 h;refine⟨ae,?_⟩;rw[f2,Bool.and_assoc];congr 1;unfold Re.whole;rw[Bool.eq_iff_iff,alo,Re.az,als]
def gO (g:Bool):VL.Obj:=⟨0,true,1,[[bV g]]⟩
def rP (lv:Bool) (p:fU):VL.Obj:=⟨0,lv,10,[(Fl p).map .d]⟩
def jN (f:FuncId):VL.Obj:=⟨0,true,1,[[.cl (.func f) [] [.rf 0 0 0 0,.rf 1 0 0 0,.rf 2 0 0 0,.rf 3 0 0 0,.rf 4 0 0 0]]]⟩
def X8 (p:fU) (top:Int) (re:Re):Prop:=∀(d sz:Int) (g lv:Bool) (pv:V),(pv=.rf 2 0 0 0\/pv=.d (.el (Fl p)))->0<=d->d<=25->0<=sz->sz<=256 ->
 av prog 44 [fY re,i64 d,.rf 0 0 0 0,.rf 1 0 0 0,pv,.rf 3 0 0 0,.rf 4 0 0 0] [pf sz,gO g,rP lv p,pf top,jN 44]
  λv s=>v=bV (re.vw p.aj top d sz g).1/\s=[pf (re.vw p.aj top d sz g).2.1,gO (re.vw p.aj top d sz g).2.2,rP lv p,pf top,jN 44]
theorem R7 (p:fU) (top:Int) (ht:top<=1114111) (re:Re) (hf:re.df=true):X8 p top re:=by
 revert hf;refine Re.ind (Q:=λre=>re.df=true->X8 p top re) (λre ih hf=>?_) re;obtain⟨rm,hlen,JR⟩:=Re.gK hf;have O4:=Ri re hf p.aj top ht;rw[fY,Re.ah]at O4;simp only[i64,iD,bD]at O4;intro d sz g lv pv n8 uZ qg jW dL;have w1:IntKind.i64.wrap (sz+1)=sz+1:=bK _ ae;have w2:IntKind.i64.wrap (d+1)=d+1:=bK _ ae;rw[Re.Y3];by_cases hc:256<sz+1\/24<d
 ·rw[be hc];have ud:256<sz+1\/(¬256<sz+1/\24<d):=ae;refine br func44 ntmps44 results44 5 6442452607 ?_;rcases ud with c1|⟨c1,c2⟩
  ·simp only[zI,simprocAttr,fY,Re.ah re,iD,bD,pf,gO,rP,jC p,jN,bV,w1,c1];all_goals exact dX
  ·simp only[zI,simprocAttr,fY,Re.ah re,iD,bD,pf,gO,rP,jC p,jN,bV,w1,c1,c2];all_goals exact dX
 rw[ap hc];have c1:¬256<sz+1:=λh=>hc (.inl h);have c2:¬24<d:=λh=>hc (.inr h);generalize hG:(g&&bX re p.aj top)=G;rcases n8 with rfl|rfl;all_goals
  cases g;all_goals
   refine br func44 ntmps44 results44 5 6442452607 ?_;simp only[zI,simprocAttr,fY,Re.ah re,iD,bD,pf,gO,rP,jC p,jN,bV,w1,c1,c2];try
    rw[al6]at hG;rw[hG]at O4;refine dk O4 ?_;simp only[zI,simprocAttr,iD,bD,bV]
   refine ay (λn e s=>∃i:Nat,n=re.kids.length-i/\i<=re.kids.length/\e 0=fY re/\e 1=i64 d/\e 6=.rf 4 0 0 0/\e 31=i64 re.kids.length/\e 32=i64 i /\
     (Re.tR p.aj top (re.kids.take i) (d+1) (sz+1) G).1=true /\
     s=[pf (Re.tR p.aj top (re.kids.take i) (d+1) (sz+1) G).2.1,gO (Re.tR p.aj top (re.kids.take i) (d+1) (sz+1) G).2.2,rP lv p,pf top,jN 44])
    ⟨_,_,_,bO.refl,0,rfl,ae,by simp [fY,Re.ah re,iD,bD];rfl,rfl,rfl,rfl,rfl,rfl,by simp only[amj,Re.tR,pf,gO,rP,jC p,jN,i64,bV,iD,bD,ak8,ak9,<- hG,Bool.false_and]⟩ ?_
   rintro n e s ⟨i,rfl,hi,h0,h1,h6,ON,xI,bR,rfl⟩;have YH:=N7 p.aj top (re.kids.take i) (λk _=>Yj p.aj top k) (d+1) (sz+1) G ae ae;obtain⟨b1,b2⟩:=YH.2.2.2 bR;have b3:=(YH.1.1 bR).1;have b4:=YH.2.1;rcases alw i re.kids.length with aE|gE
   ·obtain⟨k,hk⟩:∃k,re.kids[i]?=some k:=cb aE;have hm:=List.mem_of_getElem? hk;have Eb:=Re.S5 p.aj top (re.kids.take i) k (d+1) (sz+1) G bR;rw[<- bn hk]at Eb;have acz:Re.tR p.aj top re.kids (d+1) (sz+1) G=if (Re.tR p.aj top (re.kids.take (i+1)) (d+1) (sz+1) G).1=true then Re.tR p.aj top (re.kids.drop (i+1)) (d+1) (Re.tR p.aj top (re.kids.take (i+1)) (d+1) (sz+1) G).2.1 (Re.tR p.aj top (re.kids.take (i+1)) (d+1) (sz+1) G).2.2 else Re.tR p.aj top (re.kids.take (i+1)) (d+1) (sz+1) G:=by rw[<- Re.yw,amw]
    have eH:=ih k hm (JR k hm) (d+1) (Re.tR p.aj top (re.kids.take i) (d+1) (sz+1) G).2.1 (Re.tR p.aj top (re.kids.take i) (d+1) (sz+1) G).2.2 lv (.rf 2 0 0 0) (.inl rfl) ae ae b4 ae;rw[<- Eb]at eH;simp only[rP,jC p,iD,bD,ak8,ak9]at eH;generalize Re.tR p.aj top (re.kids.take i) (d+1) (sz+1) G=A at *;generalize hB:Re.tR p.aj top (re.kids.take (i+1)) (d+1) (sz+1) G=B at *;obtain⟨B1,B2,B3⟩:=B;simp only[zI,simprocAttr,pf,gO,rP,jC p,jN,bV,h0,h1,h6,ON,xI,aE];refine cP mix [] [(0,[4],[]),(9,[0,1,2,3,4],[0,1,2,3,4])] ?_;simp only[zI,simprocAttr,pf,gO,rP,jC p,jN,bV,fY,Re.ah re,iD,bD,h0,h1,h6,ON,xI,aE,hk,w2];refine MU eH (by intro j hj;simp only[alg,alf]at hj;simp only[alT,amc,or_false];omega) rfl rfl ?_;cases B1 with
    |false =>
     simp only[alk,if_false]at acz;rw[acz];simp only[zI,simprocAttr,pf,gO,rP,jC p,jN,bV,h0,h1,h6,ON,xI];all_goals exact dX
    |true =>
     simp only[zI,simprocAttr,pf,gO,bV,h0,h1,h6,ON,xI];refine⟨re.kids.length-(i+1),_,_,ae,bO.refl,i+1,rfl,aE,?_,?_,?_,?_,?_,by rw[hB],?_⟩ <;> (try simp only[zU,Ft,qa,qe,Fp,reduceIte])
     ·simpa [fY,Re.ah re,iD,bD]using h0
     ·exact h1
     ·exact h6
     ·exact ON
     ·rw[bK _ ae];rfl
     ·rw[hB];simp only[rP,jC p,iD,bD,ak8,ak9];rfl
   ·have eg:i=re.kids.length:=by omega
    subst eg;rw[alr]at *;simp only[zI,simprocAttr,pf,gO,rP,jC p,jN,bV,h0,h1,h6,ON,xI,al5];rw[bR];all_goals exact dX
end Go.Proofs.YtjjfioalgbecmaaGreat
