/- A part of the proof (F41 F32 F33 F43 F44). -/
import Derived.Test.YtphfjhaffbfpfaaPM3
import Derived.Test.YtphfjhaffbfpfaaPM6
import Derived.Test.YtphfjhaffbfpfaaPM13
set_option linter.all false
set_option maxRecDepth 100000
set_option maxHeartbeats 80000000
namespace Go.Proofs.Ytphfjhaffbfpfaa
open Go.VL Go.Proofs.Try
end Go.Proofs.Ytphfjhaffbfpfaa
namespace Go.Proofs.Ytphfjhaffbfpfaa
open Go.VL Go.Proofs.Try
def zj (re:Re):Bool:=decide (0<=re.op/\re.op<=11/\(re.op=4->re.kids.length=1/\0<=re.mn/\re.mn<=32/\(re.mx=-1\/(1<=re.mx/\re.mx<=32/\re.mn<=re.mx))) /\
 (re.op=3\/re.op=10\/re.op=5\/re.op=9->re.kids≠[])/\(re.op=5\/re.op=9->re.kids.length=1))
theorem LN {re:Re}{ah top:Int} (h:b9 re ah top=true):zj re=true:=by
 obtain⟨⟨h1,h2,h3,h4⟩,_,h5,_,_⟩:=eT.1 h;refine adu ⟨h1,h2,λo=>?_,λo=>?_,λo=>?_⟩
 ·rw[o]at h3 h4 h5;simp only[cR,Int.reduceEq,or_self,if_false,or_true,true_or,or_false,false_or,if_true,reduceIte]at h3 h4 h5;omega
 ·intro hn;rw[hn]at h3;rcases o with o|o|o|o <;> rw[o]at h3 <;> simp [cR]at h3
 ·rcases o with o|o;all_goals
   rw[o]at h3 h4;simp only[cR,Int.reduceEq,or_self,if_false,or_true,true_or,or_false,false_or,if_true,reduceIte]at h3 h4;omega
theorem L9 {re:Re}{ah top:Int} (h:re.whole ah top=true):re.every zj=true:=nA (λ_=>LN) re h
theorem U6 (re:Re) (h:re.every zj=true):LR re.gu re.lens:=by
 revert h;refine Re.ind (Q:=λre=>re.every zj=true->LR re.gu re.lens) (λre ih h=>?_) re;obtain⟨h1,h2⟩:=(Re.aQ re).1 h;obtain⟨o0,nb,h4,fG,_⟩:=of_decide_eq_true h1;have hk:∀k∈re.kids,LR k.gu k.lens:=λk hk=>ih k hk (h2 k hk);have hp:∀x∈re.kids.map (λk=>(k.gu,k.lens)),LR x.1 x.2:=λx hx=>by obtain⟨k,uB,rfl⟩:=List.mem_map.1 hx;exact hk k uB
 rw[Re.pw,Re.RN];have m1:(re.kids.map (λk=>(k.gu,k.lens))).map (·.1)=re.kids.map Re.gu:=by simp
 have m2:(re.kids.map (λk=>(k.gu,k.lens))).map (·.2)=re.kids.map Re.lens:=by simp
 have alt:re.kids≠[]->LR ((re.kids.map Re.gu).any id) (L2 (re.kids.map Re.lens)):=λhn=>by
  obtain⟨k,l,AZ⟩:=List.exists_cons_of_ne_nil hn;have iZ:=hk k (by rw[AZ];simp);have:=BO (l.map λk=>(k.gu,k.lens)) k.gu k.lens iZ (λx hx=>by
   obtain⟨y,hy,rfl⟩:=List.mem_map.1 hx;exact hk y (by rw[AZ];simp [hy]))
  rw[AZ];simp only[adG,L2,LB iZ,List.any_cons,id_eq];simpa [List.map_map,Function.comp_def]using this
 have xV:re.op=0\/re.op=1\/re.op=2\/re.op=3\/re.op=4\/re.op=5\/re.op=6\/re.op=7\/re.op=8\/re.op=9\/re.op=10\/re.op=11:=by omega
 have zz:LR true (0,0):=⟨by decide,by decide,by decide,by decide,.inr (by decide),by decide⟩
 rcases xV with o|o|o|o|o|o|o|o|o|o|o|o
 ·rw[o];exact zz
 ·have one:LR false (1,1):=⟨by decide,by decide,by decide,by decide,.inr (by decide),by decide⟩
  rw[o];exact one
 ·have:=BW _ true (0,0) zz hp;rw[m1,m2,Bool.true_and]at this;rw[o];exact this
 ·have:=alt (fG (.inl o));rw[o];exact this
 ·obtain⟨q1,q2,q3,q4⟩:=h4 o;have:=alt (by intro he;rw[he]at q1;cases q1);rw[o];simp only[mP,IM];generalize L2 (re.kids.map Re.lens)=p at *;generalize (re.kids.map Re.gu).any id=na at *;obtain⟨a0,a1,b0,b1,ab,nl⟩:=this;have e1:=Sv a0 a1 q2 (by omega);have e2:0<=p.1*re.mn:=Int.mul_nonneg a0 q2;simp only[reduceCtorEq,Int.reduceEq,if_false,false_or,or_false,or_self,if_true,true_or,or_true];have key:(jC p.2 re.mx=-1\/(0<=jC p.2 re.mx/\jC p.1 re.mn<=jC p.2 re.mx))/\jC p.2 re.mx<=1000000:=by
   by_cases hm:re.mx=-1
   ·rw[hm];by_cases hb:p.2=0
    ·have ha:p.1=0:=by omega
     rw[hb,ha,GI,GI];omega
    ·rw[TN hb];omega
   ·have q5:1<=re.mx/\re.mx<=32/\re.mn<=re.mx:=by omega
    by_cases hb:p.2=-1
    ·rw[hb,SQ (by omega)];omega
    ·rw[Sv (by omega) b1 (by omega) (by omega),e1];have:p.1*re.mn<=p.2*re.mx:=Int.mul_le_mul (by omega) q5.2.2 q2 (by omega);have:=Int.mul_nonneg (show 0<=p.2 by omega) (show 0<=re.mx by omega);omega
  refine⟨?_,?_,?_,key.2,?_,?_⟩ <;> simp only
  ·rw[e1];omega
  ·rw[e1];omega
  ·omega
  ·omega
  ·rw[e1];split
   ·rename_i hm;rw[hm,Int.mul_zero];exact⟨λ_=>by omega,λ_=>rfl⟩
   ·rename_i hm;rw[nl];constructor
    ·intro hz;rw[hz,Int.zero_mul];omega
    ·intro hz;by_cases TI:p.1=0
     ·exact TI
     ·have:0<p.1*re.mn:=Int.mul_pos (by omega) (by omega);omega
 ·have:=alt (fG (.inr (.inr (.inl o))));rw[o];exact this
 ·have far:LR true (0,-1):=⟨by decide,by decide,by decide,by decide,.inl (by decide),by decide⟩
  rw[o];exact far
 ·rw[o];exact zz
 ·rw[o];exact zz
 ·have:=alt (fG (.inr (.inr (.inr o))));rw[o];exact this
 ·have:=alt (fG (.inr (.inl o)));rw[o];exact this
 ·rw[o];exact zz
theorem DK {l:List Re} (h:l.length=1):∃k,l=[k]:=by
 match l,h with
 |[k],_=>exact⟨k,rfl⟩
theorem N7 (re:Re) (h:re.every zj=true):re.gu=re.pg:=by
 revert h;refine Re.ind (Q:=λre=>re.every zj=true->re.gu=re.pg) (λre ih h=>?_) re;obtain⟨h1,h2⟩:=(Re.aQ re).1 h;obtain⟨o0,nb,h4,h5,h6⟩:=of_decide_eq_true h1;have hm:re.kids.map Re.gu=re.kids.map Re.pg:=aei (λk hk=>ih k hk (h2 k hk));rw[Re.pw,Re.jA,hm,Re.qd,Re.qg];have xV:re.op=0\/re.op=1\/re.op=2\/re.op=3\/re.op=4\/re.op=5\/re.op=6\/re.op=7\/re.op=8\/re.op=9\/re.op=10\/re.op=11:=by omega
 rcases xV with o|o|o|o|o|o|o|o|o|o|o|o
 case inr.inr.inr.inr.inl =>
  obtain⟨q1,q2,_⟩:=h4 o;obtain⟨k,hk⟩:=DK q1;rw[o,hk];by_cases hz:re.mn=0
  ·simp [mP,hz]
  ·have:¬re.mn<=0:=by omega
   simp [mP,hz,this,Re.lC]
 case inr.inr.inr.inr.inr.inl =>
  obtain⟨k,hk⟩:=DK (h6 (.inl o));rw[o,hk];simp [mP,Re.lC]
 case inr.inr.inr.inr.inr.inr.inr.inr.inr.inl =>
  obtain⟨k,hk⟩:=DK (h6 (.inr o));rw[o,hk];simp [mP,Re.lC]
 all_goals (rw[o];simp [mP])
 all_goals (try (congr 1))
def Ac (p:iF):List D:=p.re.cells++[iD p.ah,bD p.aK]
theorem ib (p:iF):Ac p=[iD p.re.op,.sl (p.re.set.map aN),.sl (p.re.kids.map Re.cells),iD p.re.mn,iD p.re.mx,iD p.re.mode,iD p.re.n,bD p.re.neg,iD p.ah,bD p.aK]:=by unfold Ac;rw[Re.ae];rfl
end Go.Proofs.Ytphfjhaffbfpfaa
