/- A part of the proof (F40 F41 F32 F33 F43 F44 F46). -/
import Derived.Test.YtjjfioalgbecmaaGreatOQ24
set_option linter.unusedSimpArgs false
set_option linter.unusedVariables false
open Nat renaming reduceShiftRight → jN, reduceMod → oN, reduceEqDiff → oV, reduceBEq → pZ
open Int renaming reduceEq → D6
set_option maxRecDepth 100000
set_option maxHeartbeats 80000000
namespace Go.Proofs.YtjjfioalgbecmaaGreat
open Go.VL Go.Proofs.Tryz
end Go.Proofs.YtjjfioalgbecmaaGreat
namespace Go.Proofs.YtjjfioalgbecmaaGreat
open Go.VL Go.Proofs.Tryz
end Go.Proofs.YtjjfioalgbecmaaGreat
namespace Go.Proofs.YtjjfioalgbecmaaGreat
open Go.VL Go.Proofs.Tryz
def Aa (re:Re):Bool:=decide (0<=re.op/\re.op<=11/\(re.op=4->re.kids.length=1/\0<=re.mn/\re.mn<=32/\(re.mx=-1\/(1<=re.mx/\re.mx<=32/\re.mn<=re.mx))) /\
 (re.op=3\/re.op=10\/re.op=5\/re.op=9->re.kids≠[])/\(re.op=5\/re.op=9->re.kids.length=1))
theorem QE {re:Re}{ai top:Int} (h:bU re ai top=true):Aa re=true:=by
 obtain⟨⟨h1,h2,h3,h4⟩,_,h5,_,_⟩:=eG.1 h;refine bi ⟨h1,h2,λo=>?_,λo=>?_,λo=>?_⟩
 ·rw[o]at h3 h4 h5;simp only[cr,D6,or_self,if_false,or_true,true_or,or_false,false_or,if_true,reduceIte]at h3 h4 h5;omega
 ·intro hn;rw[hn]at h3;rcases o with o|o|o|o <;> rw[o]at h3 <;> simp [cr]at h3
 ·rcases o with o|o;all_goals
   rw[o]at h3 h4;simp only[cr,D6,or_self,if_false,or_true,true_or,or_false,false_or,if_true,reduceIte]at h3 h4;omega
theorem GA {re:Re}{ai top:Int} (h:re.whole ai top=true):re.every Aa=true:=iq (λ_=>QE) re h
theorem ZI (re:Re) (h:re.every Aa=true):LR re.fK re.lens:=by
 revert h;refine Re.ind (Q:=λre=>re.every Aa=true->LR re.fK re.lens) (λre ih h=>?_) re;obtain⟨h1,h2⟩:=(Re.aD re).1 h;obtain⟨o0,sm,h4,eU,_⟩:=of_decide_eq_true h1;have hk:∀k∈re.kids,LR k.fK k.lens:=λk hk=>ih k hk (h2 k hk);have hp:∀x∈re.kids.map (λk=>(k.fK,k.lens)),LR x.1 x.2:=λx hx=>by obtain⟨k,sT,rfl⟩:=List.mem_map.1 hx;exact hk k sT
 rw[Re.qR,Re.Wu];have m1:(re.kids.map (λk=>(k.fK,k.lens))).map (·.1)=re.kids.map Re.fK:=ak;have m2:(re.kids.map (λk=>(k.fK,k.lens))).map (·.2)=re.kids.map Re.lens:=ak;have alt:re.kids≠[]->LR ((re.kids.map Re.fK).any id) (QZ (re.kids.map Re.lens)):=λhn=>by
  obtain⟨k,l,uG⟩:=List.exists_cons_of_ne_nil hn;have fJ:=hk k (by rw[uG];simp);have:=G8 (l.map λk=>(k.fK,k.lens)) k.fK k.lens fJ (λx hx=>by
   obtain⟨y,hy,rfl⟩:=List.mem_map.1 hx;exact hk y (by rw[uG];simp [hy]))
  rw[uG];simp only[ajR,QZ,QK fJ,List.any_cons,id_eq];simpa [akq,Function.comp_def]using this
 have wH:re.op=0\/re.op=1\/re.op=2\/re.op=3\/re.op=4\/re.op=5\/re.op=6\/re.op=7\/re.op=8\/re.op=9\/re.op=10\/re.op=11:=ae;have zz:LR true (0,0):=⟨aU,aU,aU,aU,.inr aU,aU⟩
 rcases wH with o|o|o|o|o|o|o|o|o|o|o|o
 ·rw[o];exact zz
 ·have one:LR false (1,1):=⟨aU,aU,aU,aU,.inr aU,aU⟩
  rw[o];exact one
 ·have:=F4 _ true (0,0) zz hp;rw[m1,m2,ak5]at this;rw[o];exact this
 ·have:=alt (eU (.inl o));rw[o];exact this
 ·obtain⟨q1,q2,q3,q4⟩:=h4 o;have:=alt (by intro he;rw[he]at q1;cases q1);rw[o];simp only[oB,ME];generalize QZ (re.kids.map Re.lens)=p at *;generalize (re.kids.map Re.fK).any id=na at *;obtain⟨a0,a1,b0,b1,ab,nl⟩:=this;have e1:=W2 a0 a1 q2 ae;have e2:0<=p.1*re.mn:=ak4 a0 q2;simp only[reduceCtorEq,D6,if_false,false_or,or_false,or_self,if_true,true_or,or_true];have key:(kB p.2 re.mx=-1\/(0<=kB p.2 re.mx/\kB p.1 re.mn<=kB p.2 re.mx))/\kB p.2 re.mx<=1000000:=by
   by_cases hm:re.mx=-1
   ·rw[hm];by_cases hb:p.2=0
    ·have ha:p.1=0:=by omega
     rw[hb,ha,LC,LC];omega
    ·rw[Yd hb];omega
   ·have q5:1<=re.mx/\re.mx<=32/\re.mn<=re.mx:=by omega
    by_cases hb:p.2=-1
    ·rw[hb,Yf ae];omega
    ·rw[W2 ae b1 ae ae,e1];have:p.1*re.mn<=p.2*re.mx:=Int.mul_le_mul ae q5.2.2 q2 ae;have:=ak4 (show 0<=p.2 by omega) (show 0<=re.mx by omega);omega
  refine⟨?_,?_,?_,key.2,?_,?_⟩ <;> simp only
  ·rw[e1];omega
  ·rw[e1];omega
  ·omega
  ·omega
  ·rw[e1];split
   ·rename_i hm;rw[hm,Int.mul_zero];exact⟨λ_=>ae,λ_=>rfl⟩
   ·rename_i hm;rw[nl];constructor
    ·intro hz;rw[hz,Int.zero_mul];omega
    ·intro hz;by_cases XN:p.1=0
     ·exact XN
     ·have:0<p.1*re.mn:=Int.mul_pos ae ae;omega
 ·have:=alt (eU (.inr (.inr (.inl o))));rw[o];exact this
 ·have far:LR true (0,-1):=⟨aU,aU,aU,aU,.inl aU,aU⟩
  rw[o];exact far
 ·rw[o];exact zz
 ·rw[o];exact zz
 ·have:=alt (eU (.inr (.inr (.inr o))));rw[o];exact this
 ·have:=alt (eU (.inr (.inl o)));rw[o];exact this
 ·rw[o];exact zz
theorem HI {l:List Re} (h:l.length=1):∃k,l=[k]:=by
 match l,h with
 |[k],_=>exact⟨k,rfl⟩
theorem KT (re:Re) (h:re.every Aa=true):re.fK=re.sK:=by
 revert h;refine Re.ind (Q:=λre=>re.every Aa=true->re.fK=re.sK) (λre ih h=>?_) re;obtain⟨h1,h2⟩:=(Re.aD re).1 h;obtain⟨o0,sm,h4,h5,h6⟩:=of_decide_eq_true h1;have hm:re.kids.map Re.fK=re.kids.map Re.sK:=akz (λk hk=>ih k hk (h2 k hk));rw[Re.qR,Re.tG,hm,Re.rG,Re.ry];have wH:re.op=0\/re.op=1\/re.op=2\/re.op=3\/re.op=4\/re.op=5\/re.op=6\/re.op=7\/re.op=8\/re.op=9\/re.op=10\/re.op=11:=ae;rcases wH with o|o|o|o|o|o|o|o|o|o|o|o
 case inr.inr.inr.inr.inl =>
  obtain⟨q1,q2,_⟩:=h4 o;obtain⟨k,hk⟩:=HI q1;rw[o,hk];by_cases hz:re.mn=0
  ·simp [oB,hz]
  ·have:¬re.mn<=0:=by omega
   simp [oB,hz,this,Re.mZ]
 case inr.inr.inr.inr.inr.inl =>
  obtain⟨k,hk⟩:=HI (h6 (.inl o));rw[o,hk];simp [oB,Re.mZ]
 case inr.inr.inr.inr.inr.inr.inr.inr.inr.inl =>
  obtain⟨k,hk⟩:=HI (h6 (.inr o));rw[o,hk];simp [oB,Re.mZ]
 all_goals (rw[o];simp [oB])
 all_goals (try (congr 1))
def DZ (p:iM):List D:=p.re.cells++[iD p.ai,bD p.aB]
theorem iZ (p:iM):DZ p=[iD p.re.op,.sl (p.re.set.map aT),.sl (p.re.kids.map Re.cells),iD p.re.mn,iD p.re.mx,iD p.re.mode,iD p.re.n,bD p.re.neg,iD p.ai,bD p.aB]:=by unfold DZ;rw[Re.ah];rfl
theorem Ul (b:Bool):aM prog 43 [bV b] (i64 (gH b)):=by
 refine bo func43 ntmps43 results43 0 5 ?_;cases b
 ·simp only[zI,simprocAttr,bV,gH,ajY]
 ·simp only[zI,simprocAttr,bV,gH]
def HF (re:Re):Bool:=decide (0<=re.mn/\re.mn<=32/\0<=re.mode/\re.mode<=2/\(re.mx=-1\/(1<=re.mx/\re.mx<=32/\re.mn<=re.mx)))
theorem MW (re:Re):aM prog 87 [fA re] (bV (HF re)):=by
 refine bo func87 ntmps87 results87 0 5 ?_;simp only[zI,simprocAttr,fA,Re.ah re,iD,bD]
 repeat' (first
 |(with_reducible refine And.intro qH ?_)
 |(with_reducible first|refine jQ (λhc=>?_) (λhc=>?_)|refine dI (λhc=>?_) (λhc=>?_)|refine dH (λhc=>?_) (λhc=>?_)|refine cZ (λhc=>?_) (λhc=>?_)|refine cY (λhc=>?_) (λhc=>?_)|refine gX (λhc=>?_) (λhc=>?_)|refine dF (λhc=>?_) (λhc=>?_))<;>simp only[zI,simprocAttr,iD,bD,hc])
 any_goals
  refine cu mix [] [] ?_;simp only[zI,simprocAttr,iD,bD]
 any_goals
  repeat' (first
 |(with_reducible refine And.intro qH ?_)
 |(with_reducible first|refine jQ (λhc=>?_) (λhc=>?_)|refine dI (λhc=>?_) (λhc=>?_)|refine dH (λhc=>?_) (λhc=>?_)|refine cZ (λhc=>?_) (λhc=>?_)|refine cY (λhc=>?_) (λhc=>?_)|refine gX (λhc=>?_) (λhc=>?_)|refine dF (λhc=>?_) (λhc=>?_))<;>simp only[zI,simprocAttr,iD,bD,hc])
 all_goals first
  |(refine congrArg bV (Eq.symm (ce λh=>?_));omega)
  |(refine congrArg bV (Eq.symm (bi ?_));omega)
  |(refine congrArg bV (Eq.symm (decide_eq_decide.2 ?_));omega)
  |(refine congrArg bV (Eq.symm (decide_eq_decide.2 ?_));constructor <;> intro h <;> omega)
theorem Dl (l:List (Int×Int)) (hl:l.length<=1000000000) (top:Int) (ht:top<=1114111):aM prog 86 [.d (.sl (l.map aT)),i64 top] (bV (gT l top)):=by
 refine bo func86 ntmps86 results86 0 7283 ?_;by_cases h64:(64:Int)<l.length
 ·simp only[zI,simprocAttr,h64];have:¬l.length<=64:=ae;simp [gT,bV,this]
 have Yr:l.length<=64:=ae;have hR:gT l top=jS top (-2) l:=by simp [gT,Yr]
 rw[hR];simp only[zI,simprocAttr,h64];refine aw (λn e s=>∃i:Nat,n=l.length-i/\i<=l.length/\e 0=.d (.sl (l.map aT))/\e 1=i64 top/\e 10=.d (.sl (l.map aT))/\e 11=i64 l.length/\e 12=i64 i/\s=[]/\jS top (-2) l=jS top (fM l i) (l.drop i)/\(0<i->0<=fM l i/\fM l i<=top))
  ⟨_,_,_,bA.refl,0,rfl,ae,rfl,rfl,rfl,rfl,rfl,rfl,rfl,λh=>absurd h ae⟩ ?_
 rintro n e s ⟨i,rfl,hi,h0,h1,cA,eI,dV,rfl,jO,mj⟩;rcases akd i l.length with az|gx
 ·obtain⟨k,hk⟩:∃k,l[i]?=some k:=cc az;have hd:l.drop i=k::l.drop (i+1):=by rw[alc az];rw[List.getElem?_eq_getElem az]at hk;simp only[ajU]at hk;rw[hk]
  rw[hd]at jO;simp only[jS]at jO;have oM:fM l (i+1)=k.2:=by simp [fM,hk]
  simp only[zI,simprocAttr,h0,h1,cA,eI,dV,az,hk,aT,iD];refine cu mix [] [] ?_;cases i with
  |zero =>
   have jO:jS top (-2) l=(decide (0<=k.1/\k.1<=k.2/\k.2<=top/\-2+1<k.1)&&jS top k.2 (l.drop (0+1))):=jO;simp only[zI,simprocAttr,h0,h1,cA,eI,dV,hk,aT,iD,aka]
   repeat' (first
 |(with_reducible refine And.intro qH ?_)
 |(with_reducible first|refine jQ (λhc=>?_) (λhc=>?_)|refine dI (λhc=>?_) (λhc=>?_)|refine dH (λhc=>?_) (λhc=>?_)|refine cZ (λhc=>?_) (λhc=>?_)|refine cY (λhc=>?_) (λhc=>?_)|refine gX (λhc=>?_) (λhc=>?_)|refine dF (λhc=>?_) (λhc=>?_))<;>simp only[zI,simprocAttr,h0,h1,cA,eI,dV,hk,aT,iD,aka,hc])
   any_goals (refine congrArg bV (Eq.symm ?_);rw[jO,show decide (0<=k.1/\k.1<=k.2/\k.2<=top/\-2+1<k.1)=false from ce ae];rfl)
   refine⟨l.length-1,_,_,ae,bA.cut 0 ae rfl rfl [0,1,10,11,12] ?_,1,rfl,az,?_,?_,?_,?_,?_,rfl,?_,?_⟩ <;> (try simp only[zU,pZ,jN,oN,oV,reduceIte])
   ·simp [bK,aS,aj,h0,h1,cA,eI,i64]
   ·exact h0
   ·exact h1
   ·exact cA
   ·exact eI
   ·rw[bG _ ae];rfl
   ·rw[jO,oM,show decide (0<=k.1/\k.1<=k.2/\k.2<=top/\-2+1<k.1)=true from bi ae];rfl
   ·intro _;rw[oM];omega
  |succ j =>
   obtain⟨kp,zv⟩:∃k,l[j]?=some k:=⟨_,List.getElem?_eq_getElem (by omega:j<l.length)⟩
   have IK:fM l (j+1)=kp.2:=by simp [fM,zv]
   have mj:=mj ae;rw[IK]at mj jO;have w1:IntKind.i64.wrap (((j+1:Nat):Int)-1)=(j:Int):=by rw[bG _ ae];omega
   have w2:IntKind.i64.wrap (kp.2+2)=kp.2+2:=bG _ ae;have p0:(0:Int)<((j+1:Nat):Int):=ae;have q2:(j:Int)<l.length:=ae;simp only[zI,simprocAttr,h0,h1,cA,eI,dV,hk,aT,iD,zv,w1,w2,p0,q2]
   repeat' (first
 |(with_reducible refine And.intro qH ?_)
 |(with_reducible first|refine jQ (λhc=>?_) (λhc=>?_)|refine dI (λhc=>?_) (λhc=>?_)|refine dH (λhc=>?_) (λhc=>?_)|refine cZ (λhc=>?_) (λhc=>?_)|refine cY (λhc=>?_) (λhc=>?_)|refine gX (λhc=>?_) (λhc=>?_)|refine dF (λhc=>?_) (λhc=>?_))<;>simp only[zI,simprocAttr,h0,h1,cA,eI,dV,hk,aT,iD,zv,w1,w2,p0,q2,hc])
   any_goals (refine congrArg bV (Eq.symm ?_);rw[jO,show decide (0<=k.1/\k.1<=k.2/\k.2<=top/\kp.2+1<k.1)=false from ce ae];rfl)
   refine⟨l.length-(j+1+1),_,_,ae,bA.cut 0 ae rfl rfl [0,1,10,11,12] ?_,j+1+1,rfl,az,?_,?_,?_,?_,?_,rfl,?_,?_⟩ <;> (try simp only[zU,pZ,jN,oN,oV,reduceIte])
   ·simp [bK,aS,aj,h0,h1,cA,eI,i64]
   ·exact h0
   ·exact h1
   ·exact cA
   ·exact eI
   ·rw[bG _ ae];rfl
   ·rw[jO,oM,show decide (0<=k.1/\k.1<=k.2/\k.2<=top/\kp.2+1<k.1)=true from bi ae];rfl
   ·intro _;rw[oM];omega
 ·have dX:i=l.length:=by omega
  subst dX;simp only[zI,simprocAttr,h0,h1,cA,eI,dV,ak9];rw[jO];simp [jS,bV]
end Go.Proofs.YtjjfioalgbecmaaGreat
