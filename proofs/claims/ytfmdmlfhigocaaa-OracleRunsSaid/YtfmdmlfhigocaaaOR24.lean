/- A part of the proof (F25 F26 F37 F38 F39 F42 G18). -/
import Derived.Test.YtfmdmlfhigocaaaOR13
import Derived.Test.YtfmdmlfhigocaaaOR16
import Derived.Test.YtfmdmlfhigocaaaOR20
import Derived.Test.YtfmdmlfhigocaaaOR21
import Derived.Test.YtfmdmlfhigocaaaOR23
set_option linter.unusedSimpArgs false
set_option linter.unusedVariables false
open Nat renaming reduceShiftRight → cy, reduceMod → cJ, reduceEqDiff → dV, reduceBEq → gV
set_option maxRecDepth 100000
set_option maxHeartbeats 80000000
namespace Go.Proofs.Ytfmdmlfhigocaaa
open Go.VL Go.Proofs.Try
variable{b:Int}{k:Int×Int}{na:Bool}{a:Int×Int}{nk:Bool}
structure LR (sB:Bool) (p:Int×Int):Prop where
 a0:0<=p.1
 a1:p.1<=1000000
 b0:-1<=p.2
 b1:p.2<=1000000
 ab:p.2=-1\/p.1<=p.2
 nl:sB=true ↔ p.1=0
theorem JE {a:Int} (h1:-1<=a/\a<=1000000) (h2:-1<=b/\b<=1000000):yJ a b=if a<0\/b<0 then -1 else min (a+b) 1000000:=by unfold yJ;rw[bF _ ae]
theorem Sz (ha:LR na a) (hk:LR nk k):LR (na&&nk) (yJ a.1 k.1,yJ a.2 k.2):=by
 obtain⟨a0,a1,b0,b1,ab,nl⟩:=ha;obtain⟨c0,c1,d0,d1,cd,nl'⟩:=hk;have e1:yJ a.1 k.1=min (a.1+k.1) 1000000:=by rw[JE ⟨ae,a1⟩ ⟨ae,c1⟩,bd]
 have e2:=JE ⟨b0,b1⟩ ⟨d0,d1⟩;refine⟨?_,?_,?_,?_,?_,?_⟩ <;> simp only[e1,e2]
 ·omega
 ·omega
 ·split <;> omega
 ·split <;> omega
 ·split <;> omega
 ·rw[aji,nl,nl'];omega
theorem GJ:∀(l:List (Bool×(Int×Int))) (na:Bool) (a:Int×Int),LR na a->(∀x∈l,LR x.1 x.2) ->
  LR (na&&(l.map (·.1)).all id) ((l.map (·.2)).foldl (λa k=>(yJ a.1 k.1,yJ a.2 k.2)) a)
 |[],na,a,h,_=>by simpa using h
 |x::l,na,a,h,hl=>by have:=GJ l (na&&x.1) _ (Sz h (hl x aj)) (λy hy=>hl y (by simp [hy]));simpa [Bool.and_assoc]using this
theorem Se (ha:LR na a) (hk:LR nk k):LR (na||nk) (Cp a k):=by
 obtain⟨a0,a1,b0,b1,ab,nl⟩:=ha;obtain⟨c0,c1,d0,d1,cd,nl'⟩:=hk;refine⟨?_,?_,?_,?_,?_,?_⟩ <;> simp only[Cp,D9]
 ·omega
 ·omega
 ·split <;> omega
 ·split <;> omega
 ·split <;> omega
 ·rw[Bool.or_eq_true,nl,nl'];omega
theorem Hx:∀(l:List (Bool×(Int×Int))) (na:Bool) (a:Int×Int),LR na a->(∀x∈l,LR x.1 x.2) ->
  LR (na||(l.map (·.1)).any id) ((l.map (·.2)).foldl Cp a)
 |[],na,a,h,_=>by simpa using h
 |x::l,na,a,h,hl=>by have:=Hx l (na||x.1) _ (Se h (hl x aj)) (λy hy=>hl y (by simp [hy]));simpa [Bool.or_assoc]using this
theorem Rm {n:Bool} (h:LR n k):Cp k k=k:=by
 obtain⟨a0,a1,b0,b1,ab,nl⟩:=h;refine Prod.ext ?_ ?_ <;> simp only[Cp,D9]
 ·omega
 ·split <;> omega
theorem WA {n:Int} (h0:0<=b) (h1:b<=1000000) (n0:0<=n) (n1:n<=1000000):lq b n=min (b*n) 1000000:=by
 have hle:b*n<=1000000*1000000:=Int.mul_le_mul h1 n1 n0 ae;have iA:0<=b*n:=akj h0 n0;unfold lq;split
 ·rename_i h;rcases h with h|h <;> subst h <;> simp <;> omega
 ·rw[bd,bF _ ae]
theorem XV {n:Int} (n0:0<n):lq (-1) n=-1:=by unfold lq;rw[bd,tK]
theorem XS (h:¬b=0):lq b (-1)=-1:=by unfold lq;rw[bd,tK]
theorem Mg (n:Int):lq 0 n=0:=by simp [lq]
theorem zy (n m:Int) (hm:1<=m) (hn:fx n):0<=cZ n m/\cZ n m<m:=by
 unfold fx at hn;unfold cZ;split
 ·exact⟨Int.tmod_nonneg _ ae,Int.tmod_lt_of_pos _ ae⟩
 ·exact⟨Int.tmod_nonneg _ ae,Int.tmod_lt_of_pos _ ae⟩
mutual
def Re.paths:Re->List (List Int)
 |.mk _ _ kids _ _ _ _ _=>[]::Re.ju kids 0
def Re.ju:List Re->Int->List (List Int)
 |[],_=>[]
 |k::l,i=>k.paths.map (λp=>i::p)++Re.ju l (i+1)
end
variable{l:List Re}{c:Nat}{q:Re->Bool}{re:Re}{op:Int}{n:Int}{set:List (Int×Int)}{mn:Int}{kids:List Re}{neg:Bool}{mode:Int}{mx:Int}{ai:Int}{top:Int}{J1:Int}{b:Int}{x:Re×Mk}{m:Mk}{t:Mk->Re×Mk}{d:Nat}{z:Int}
theorem Re.Dq (re:Re):re.paths=[]::Re.ju re.kids 0:=by cases re;simp [Re.paths,Re.kids]
theorem Re.BL:∀(l:List Re) (k:Re) (i:Int),Re.ju (l++[k]) i=Re.ju l i++k.paths.map (λp=>(i+l.length)::p)
 |[],k,i=>by simp [Re.ju]
 |x::l,k,i=>by simp only[aiX,Re.ju,Re.BL l k,ajq,ai8];congr 2;apply ajK;intro p _;congr 1;omega
theorem Re.uG (h:∀k∈l,k.paths.length=k.size):∀i,(Re.ju l i).length=Re.bT l:=by
 induction l with
 |nil=>intro i;simp [Re.ju,Re.bT]
 |cons k l ih=>intro i;simp [Re.ju,Re.bT,ih (λx hx=>h x (by simp [hx])),h k aj]
theorem Re.Aw (re:Re):re.paths.length=re.size:=by refine Re.ind (Q:=λre=>re.paths.length=re.size) (λre ih=>?_) re;rw[Re.Dq,Re.size_eq,ai8,Re.uG ih];omega
theorem Re.Oe (l:List Re) (i:Int):(Re.ju l i).length=Re.bT l:=Re.uG (λk _=>k.Aw) i
theorem Re.Od{i:Int}{p:List Int} (h:p∈Re.ju l i):∃k∈l,∃x,∃q∈k.paths,p=x::q:=by
 induction l generalizing i with
 |nil=>simp [Re.ju]at h
 |cons k l ih =>
  simp only[Re.ju,List.mem_append,List.mem_map]at h;rcases h with ⟨q,hq,rfl⟩|h
  ·exact⟨k,aj,i,q,hq,rfl⟩
  ·obtain⟨k',tz,r⟩:=ih h;exact⟨k',by simp [tz],r⟩
theorem Re.Kl (re:Re):∀p∈re.paths,p.length<re.size:=by
 refine Re.ind (Q:=λre=>∀p∈re.paths,p.length<re.size) (λre ih=>?_) re;intro p hp;rw[Re.Dq]at hp;rcases List.mem_cons.1 hp with rfl|hp
 ·exact re.size_pos
 ·obtain⟨k,hk,x,q,hq,rfl⟩:=Re.Od hp;have h1:=ih k hk q hq;have h2:=Re.bN hk;simp only[ai8];omega
def lD (p:List Int):List D:=[an p]
def dD (l:List (List Int)):D:=.sl (l.map lD)
theorem Mq (re:Re) (hs:re.size<=100000):aM prog 43 [kj re] (.d (dD re.paths)):=by
 revert hs;refine Re.ind (Q:=λre=>re.size<=100000->aM prog 43 [kj re] (.d (dD re.paths))) (λre ih hs=>?_) re;have hlen:=Re.mP re.kids;have fY:=Re.size_eq re;rw[Re.Dq];let B:List VL.Obj:=[⟨0,true,8,[re.cells.map .d]⟩]
 refine bk func43 ntmps43 results43 0 127 ?_;simp only[zI,simprocAttr,aq re,iD,bD];refine ay (λn e s=>∃i:Nat,n=re.kids.length-i/\i<=re.kids.length/\e 1=.rf 0 0 0 0/\e 4=i64 i/\Acc B 1 (e 3) s (([]::Re.ju (re.kids.take i) 0).map lD))
  ⟨_,_,_,bJ.refl,0,rfl,ae,rfl,rfl,by simp only[Re.ju,akc,B];rw[Re.ah re];exact Acc.start⟩ ?_
 rintro n e s ⟨i,rfl,hi,h1,h4,iz⟩;have hB:=iz.get (id:=0) (o:=⟨0,true,8,[re.cells.map .d]⟩) rfl;rw[Re.ah re]at hB;simp only[iD,bD,aiZ,ai2]at hB;rcases ajr i re.kids.length with aB|iA
 ·obtain⟨k,hk⟩:∃k,re.kids[i]?=some k:=bZ aB;have hm:=ai4 hk;have JM:=Re.bN hm;simp only[zI,simprocAttr,iD,bD,h1,h4,hB,aB,hk];refine bO (ih k hm ae) ?_;have tF:=k.Aw;have ki:=λp hp=>Re.Kl k p hp;generalize FQ:k.paths=ps at *;simp only[zI,simprocAttr,iD,bD,h1,h4,hB];refine ay (λn e s=>∃j:Nat,n=ps.length-j/\j<=ps.length/\e 1=.rf 0 0 0 0/\e 4=i64 i/\e 5=.d (dD ps)/\e 6=i64 j/\Acc B 1 (e 3) s (([]::Re.ju (re.kids.take i) 0++(ps.take j).map (λp=>(i:Int)::p)).map lD))
   ⟨_,_,_,bJ.refl,0,rfl,ae,?_,?_,rfl,rfl,?_⟩ ?_ <;> (try simp only[zU,gV,cy,cJ,dV,reduceIte])
  ·exact h1
  ·exact h4
  ·simpa using iz
  clear iz h1 h4 hB;rintro n e s ⟨j,rfl,hj,h1,h4,h5,h6,iz⟩;have hB:=iz.get (id:=0) (o:=⟨0,true,8,[re.cells.map .d]⟩) rfl;rw[Re.ah re]at hB;simp only[iD,bD,aiZ,ai2]at hB;have QN:=Re.D5 re.kids (i+1);rw[bj hk,Re.gX]at QN;simp only[Re.bT]at QN;have iy:(([]::Re.ju (re.kids.take i) 0++(ps.take j).map (λp=>(i:Int)::p)).map lD).length<=100000:=by simp only[aiW,ai6,ai8,aj3,Re.Oe];omega
  rcases ajr j ps.length with QE|hjg
  ·obtain⟨p,hp⟩:∃p,ps[j]?=some p:=bZ QE;have hpm:=ki p (ai4 hp);simp only[E6,BB,BG,simprocAttr,nX,i64,iD,bD,h1,h4,h5,h6,hB,dD,QE,hp,lD];refine Uv (i:=⟨1,false,8,[.int .i64 0]⟩) T5 aJ aJ aj aj aj cG ?_;simp only[E6,BB,BG,simprocAttr,nX,i64,iD,bD,h1,h4,h5,h6,hB];refine iz.append YR rfl aJ aJ (by intro x hx;obtain⟨y,_,rfl⟩:=List.mem_map.1 hx;rfl) aj aj (by simp only[ai8,ai9];omega) (λv' s' DD=>?_);simp only[E6,BB,BG,simprocAttr,nX,i64,iD,bD,h1,h4,h5,h6,hB];refine⟨ps.length-(j+1),_,_,ae,bJ.refl,j+1,rfl,QE,?_,?_,?_,?_,?_⟩ <;> (try simp only[zU,gV,cy,cJ,dV,reduceIte])
   ·exact h1
   ·exact h4
   ·exact h5
   ·rw[bF _ ae];rfl
   ·rw[bj hp];simpa [lD,an,iD]using DD
  ·have NI:j=ps.length:=by omega
   subst NI;rw[ajt]at iz;simp only[E6,BB,BG,simprocAttr,nX,i64,iD,bD,h1,h4,h5,h6,hB,dD,aj7];refine⟨re.kids.length-(i+1),_,_,ae,bJ.refl,i+1,rfl,aB,?_,?_,?_⟩ <;> (try simp only[zU,gV,cy,cJ,dV,reduceIte])
   ·exact h1
   ·rw[bF _ ae];rfl
   ·rw[bj hk,Re.BL];simpa [Nat.min_eq_left hi,FQ]using iz
 ·have dY:i=re.kids.length:=by omega
  subst dY;rw[ajt]at iz;simp only[E6,BB,BG,simprocAttr,nX,i64,iD,bD,h1,h4,hB,aj7];rw[iz.Zl aj];rfl
def gi:Re:=.mk 0 [] [] 0 0 0 0 false
def Re.atR:Re->List Int->Re×Int
 |re,[]=>(re,0)
 |re,i::p=>if i<0\/re.kids.length<=i then (gi,7) else match re.kids[i.toNat]? with
  |some k=>k.atR p
  |none=>(gi,7)
theorem Ta (p:List Int):∀re:Re,re.cN=true->aM prog 44 [kj re,.d (an p)] (.tu [kj (re.atR p).1,i64 (re.atR p).2]):=by
 induction p with
 |nil =>
  intro re hf;rw[show re.atR []=(re,0) by cases re;rfl];refine bk func44 ntmps44 results44 0 55 ?_;simp only[zI,simprocAttr,aq re,iD,bD,an,ai2,ajn]
 |cons i p ih =>
  intro re hf;obtain⟨rk,hlen,Hc⟩:=Re.fT hf;have dP:¬(((p.length+1:Nat):Int)=0):=ae;have Qj:(0:Int)<((p.length+1:Nat):Int):=ae;by_cases jZ:i<0\/re.kids.length<=i
  ·rw[show re.atR (i::p)=(gi,7) by rw[Re.atR,be jZ]];have VF:i<0\/(¬i<0/\(re.kids.length:Int)<=i):=ae;rcases VF with c1|⟨c1,c2⟩
   ·refine bk func44 ntmps44 results44 0 55 ?_;simp only[zI,simprocAttr,aq re,iD,bD,an,aiZ,dP];refine aA mix [] [] aN ?_;simp only[zI,simprocAttr,aq re,iD,bD,an,aiZ,dP,Qj,c1];simp [gi,aq,Re.op,Re.set,Re.kids,Re.mn,Re.mx,Re.mode,Re.n,Re.neg,iD,bD]
   ·refine bk func44 ntmps44 results44 0 55 ?_;simp only[zI,simprocAttr,aq re,iD,bD,an,aiZ,dP];refine aA mix [] [] aN ?_;simp only[zI,simprocAttr,aq re,iD,bD,an,aiZ,dP,Qj,c1,c2];simp [gi,aq,Re.op,Re.set,Re.kids,Re.mn,Re.mx,Re.mode,Re.n,Re.neg,iD,bD]
  ·have c1:¬i<0:=λh=>jZ (.inl h);have c2:¬(re.kids.length:Int)<=i:=λh=>jZ (.inr h);have aB:i.toNat<re.kids.length:=ae;obtain⟨k,hk⟩:∃k,re.kids[i.toNat]?=some k:=bZ aB;have hm:=ai4 hk;rw[show re.atR (i::p)=k.atR p by rw[Re.atR,ap jZ,hk]];have q0:0<=i:=ae;have q1:i<re.kids.length:=ae;refine bk func44 ntmps44 results44 0 55 ?_;simp only[zI,simprocAttr,aq re,iD,bD,an,aiZ,dP];refine aA mix [] [] aN ?_;simp only[zI,simprocAttr,aq re,iD,bD,an,aiZ,dP,Qj,c1,c2];refine aA mix [12] [] aN ?_;simp only[zI,simprocAttr,aq re,iD,bD,an,aiZ,dP,Qj,c1,c2,q0,q1,hk];have tN:((p.length+1:Nat):Int)-1=(p.length:Nat):=ae;have y9:(p.map (λx=>[D.sc (.int .i64 x)])).take p.length=p.map (λx=>[D.sc (.int .i64 x)]):=ajb aj;rw[tN,ai1,y9];refine⟨⟨ae,ae⟩,?_,?_⟩
   ·intro x hx;rcases List.mem_cons.1 hx with rfl|hx
    ·rfl
    ·obtain⟨y,_,rfl⟩:=List.mem_map.1 hx;rfl
   refine bR (ih k (Hc k hm)) eX eX ?_;simp only[zI,simprocAttr,aq re,iD,bD,an,aiZ,Uk]
def Re.oD:Re->List Re->Re
 |.mk op set _ mn mx mode n neg,l=>.mk op set l mn mx mode n neg
def Re.pY:Re->List Int->Re->Re×Int
 |_,[],x=>(x,0)
 |re,i::p,x=>if i<0\/re.kids.length<=i then (gi,7) else match re.kids[i.toNat]? with
  |some k=>if (k.pY p x).2≠0 then (gi,(k.pY p x).2) else (re.oD (re.kids.take i.toNat++(k.pY p x).1::re.kids.drop (i.toNat+1)),0)
  |none=>(gi,7)
theorem Re.FH (re:Re) (l:List Re):kj (re.oD l)=.ag [.d (iD re.op),.d (.sl (re.set.map aU)),.d (.sl (l.map Re.cells)),.d (iD re.mn),.d (iD re.mx),.d (iD re.mode),.d (iD re.n),.d (bD re.neg)]:=by
 cases re;rw[aq];rfl
theorem KJ:kj gi=.ag [.d (iD 0),.d (.sl []),.d (.sl []),.d (iD 0),.d (iD 0),.d (iD 0),.d (iD 0),.d (bD false)]:=by rw[aq];rfl
theorem QM (x:Re) (p:List Int):∀re:Re,re.cN=true->aM prog 45 [kj re,.d (an p),kj x] (.tu [kj (re.pY p x).1,i64 (re.pY p x).2]):=by
 induction p with
 |nil =>
  intro re hf;rw[show re.pY [] x=(x,0) by cases re;rfl];refine bk func45 ntmps45 results45 0 2031 ?_;simp only[zI,simprocAttr,aq re,aq x,iD,bD,an,ai2,ajn]
 |cons i p ih =>
  intro re hf;obtain⟨rk,hlen,Hc⟩:=Re.fT hf;have dP:¬(((p.length+1:Nat):Int)=0):=ae;have Qj:(0:Int)<((p.length+1:Nat):Int):=ae;by_cases jZ:i<0\/re.kids.length<=i
  ·rw[show re.pY (i::p) x=(gi,7) by rw[Re.pY,be jZ],KJ];have VF:i<0\/(¬i<0/\(re.kids.length:Int)<=i):=ae;rcases VF with c1|⟨c1,c2⟩
   ·refine bk func45 ntmps45 results45 0 2031 ?_;simp only[zI,simprocAttr,aq re,aq x,iD,bD,an,aiZ,dP];refine aA mix [] [] aN ?_;simp only[zI,simprocAttr,aq re,iD,bD,an,aiZ,dP,Qj,c1]
   ·refine bk func45 ntmps45 results45 0 2031 ?_;simp only[zI,simprocAttr,aq re,aq x,iD,bD,an,aiZ,dP];refine aA mix [] [] aN ?_;simp only[zI,simprocAttr,aq re,iD,bD,an,aiZ,dP,Qj,c1,c2]
  ·have c1:¬i<0:=λh=>jZ (.inl h);have c2:¬(re.kids.length:Int)<=i:=λh=>jZ (.inr h);have aB:i.toNat<re.kids.length:=ae;obtain⟨k,hk⟩:∃k,re.kids[i.toNat]?=some k:=bZ aB;have hm:=ai4 hk;rw[show re.pY (i::p) x=if (k.pY p x).2≠0 then (gi,(k.pY p x).2) else (re.oD (re.kids.take i.toNat++(k.pY p x).1::re.kids.drop (i.toNat+1)),0) by rw[Re.pY,ap jZ,hk]];have hih:=ih k (Hc k hm);generalize k.pY p x=kr at *;obtain⟨kr,ke⟩:=kr;have q0:0<=i:=ae;have q1:i<re.kids.length:=ae;have tN:((p.length+1:Nat):Int)-1=(p.length:Nat):=ae;have y9:(p.map (λx=>[D.sc (.int .i64 x)])).take p.length=p.map (λx=>[D.sc (.int .i64 x)]):=ajb aj;have ki:∀e∈([D.sc (.int .i64 i)]::p.map (λx=>[D.sc (.int .i64 x)])),e.length=1:=by
    intro x hx;rcases List.mem_cons.1 hx with rfl|hx
    ·rfl
    ·obtain⟨y,_,rfl⟩:=List.mem_map.1 hx;rfl
   refine bk func45 ntmps45 results45 0 2031 ?_;simp only[zI,simprocAttr,aq re,aq x,iD,bD,an,aiZ,dP];refine aA mix [] [] aN ?_;simp only[zI,simprocAttr,aq re,iD,bD,an,aiZ,dP,Qj,c1,c2];refine aX ct.bt ?_;refine aA mix [] [(14,[3],[3]),(15,[3],[3])] aN ?_;simp only[zI,simprocAttr,aq re,iD,bD,an,aiZ,dP,Qj,c1,c2,q0,q1,hk,tN,y9,ai1];refine⟨⟨ae,ae⟩,ki,?_⟩;rw[aq x]at hih;simp only[iD,bD]at hih;refine bR hih eX eX ?_;simp only[zI,simprocAttr,aq re,iD,bD,an,aiZ];by_cases he:ke=0
   ·have w1:IntKind.i64.wrap (i+1)=i+1:=bF _ ae;have q2:0<=i+1:=ae;have q3:i+1<=re.kids.length:=ae;have q4:i<=re.kids.length:=ae;simp only[zX,simprocAttr,he];refine aA mix [7] [] aN ?_;simp only[zI,simprocAttr,iD,bD,Qj,q0,q1,q4,Int.sub_zero,true_or];have WJ:(List.take i.toNat (re.kids.map Re.cells)).length=i.toNat:=cG;have h8:∀l:List Re,∀e∈(l.map Re.cells).map (λx=>x.map V.d),e.length=8:=by intro l e he;obtain⟨c,hc,rfl⟩:=List.mem_map.1 he;obtain⟨y,_,rfl⟩:=List.mem_map.1 hc;simp [Re.fW]
    have hAe:List.take i.toNat (re.kids.map Re.cells)=(re.kids.take i.toNat).map Re.cells:=by rw[List.map_take]
    have hBe:List.drop (i+1).toNat (re.kids.map Re.cells)=(re.kids.drop (i.toNat+1)).map Re.cells:=by rw[show (i+1).toNat=i.toNat+1 by omega,List.map_drop]
    have hBl:((re.kids.drop (i.toNat+1)).map Re.cells).length=re.kids.length-(i.toNat+1):=aj;rw[hAe]at WJ ⊢;have adq:∀l:List Re,(((l.map Re.cells).map (λx=>x.map V.d)).take (0+(l.map Re.cells).length))=(l.map Re.cells).map (λx=>x.map V.d):=λl=>ajb aj;rw[adq];refine⟨h8 _,⟨by rw[WJ];omega,aj⟩,by simp [Re.fW],⟨ae,by rw[WJ];omega⟩,?_⟩;refine aA mix [8] [] aN ?_;simp only[zI,simprocAttr,iD,bD,Qj,q0,q1,q2,q3,q4,w1,hBe];have hB2:List.take ((re.kids.length:Int)-(i+1)).toNat ((re.kids.drop (i.toNat+1)).map Re.cells)=(re.kids.drop (i.toNat+1)).map Re.cells:=ajb (by rw[hBl];omega);rw[hB2];have e1:List.take (0+(re.kids.take i.toNat).length+1) (((re.kids.take i.toNat).map Re.cells).map (λx=>x.map V.d)++[kr.cells.map V.d])=((re.kids.take i.toNat).map Re.cells).map (λx=>x.map V.d)++[kr.cells.map V.d]:=ajb aj;have e2:((re.kids.take i.toNat).map Re.cells).map (λx=>x.map V.d)++[kr.cells.map V.d]++((re.kids.drop (i.toNat+1)).map Re.cells).map (λx=>x.map V.d)=((re.kids.take i.toNat++kr::re.kids.drop (i.toNat+1)).map Re.cells).map (λx=>x.map V.d):=aj;simp only[aiW]at hBl WJ;refine⟨ajs _,?_,h8 _,⟨aj,?_⟩,?_⟩
    ·right;intro e he;obtain⟨y,_,rfl⟩:=List.mem_map.1 he;simp [Re.fW]
    ·rw[aiW,hBl,WJ];omega
    rw[e1,e2,be (by simp only[aiW,ai6,ai8,WJ,hBl];omega)];rw[g9 7 0 _ _ _ (by simp only[aiW,ai6,ai8,WJ,hBl];omega)];rw[Re.FH];rfl
   ·rw[be he,KJ];simp only[zX,simprocAttr,he,iD,bD]
instance (n:Int):Decidable (fx n):=by unfold fx;infer_instance
def fl (c:Nat) (r:Re):Bool:=decide (r.set.length<=c/\r.kids.length<=c/\fx r.op/\fx r.mn/\fx r.mx/\fx r.mode/\fx r.n)&&r.set.all λs=>decide (fx s.1/\fx s.2)
structure eJ.small (p:eJ) (c:Nat):Prop where
 ev:p.re.every (fl c)=true
 sz:p.re.size<=c
 ai:fx p.ai
theorem je{r:Re}:fl c r=true ↔ (r.set.length<=c/\r.kids.length<=c/\fx r.op/\fx r.mn/\fx r.mx/\fx r.mode/\fx r.n)/\∀s∈r.set,fx s.1/\fx s.2:=by unfold fl;rw[aji,decide_eq_true_eq,ajo];exact and_congr Iff.rfl ⟨λh s hs=>of_decide_eq_true (h s hs),λh s hs=>bi (h s hs)⟩
theorem ue {c':Nat} (h:c<=c') (r:Re) (hr:fl c r=true):fl c' r=true:=by obtain⟨⟨h1,h2,h3⟩,h4⟩:=je.1 hr;exact je.2 ⟨⟨ae,ae,h3⟩,h4⟩
theorem dN {p:Re->Bool} (h:∀re,p re=true->q re=true) (re:Re) (hp:re.every p=true):re.every q=true:=by revert hp;refine Re.ind (Q:=λre=>re.every p=true->re.every q=true) (λre ih hp=>?_) re;obtain⟨h1,h2⟩:=(Re.av re).1 hp;exact(Re.av re).2 ⟨h re h1,λk hk=>ih k hk (h2 k hk)⟩
theorem ts (hc:c<=1000000000) (re:Re) (h:re.every (fl c)=true):re.cN=true:=by revert h;refine Re.ind (Q:=λre=>re.every (fl c)=true->re.cN=true) (λre ih h=>?_) re;obtain⟨h1,h2⟩:=(Re.av re).1 h;obtain⟨⟨a1,a2,_⟩,_⟩:=je.1 h1;exact(Re.pq re).2 ⟨ae,ae,λk hk=>ih k hk (h2 k hk)⟩
theorem OD (c:Nat):fl c gi=true :=
 je.2 ⟨⟨Nat.zero_le _,Nat.zero_le _,aJ⟩,λs hs=>by cases hs⟩
theorem xV (c:Nat):gi.every (fl c)=true:=(Re.av _).2 ⟨OD c,λk hk=>by cases hk⟩
theorem LF {q:Re->Bool} (hz:gi.every q=true):∀(p:List Int) (re:Re),re.every q=true->(re.atR p).1.every q=true
 |[],re,h=>by cases re;exact h
 |i::p,re,h=>by
  rw[Re.atR];split
  ·exact hz
  ·split
   ·rename_i k hk;exact LF hz p k (((Re.av re).1 h).2 k (ai4 hk))
   ·exact hz
theorem Pw:∀(p:List Int) (re:Re),(re.atR p).1.size<=re.size
 |[],re=>by cases re;exact ajc _
 |i::p,re=>by
  have h1:=re.size_pos;rw[Re.atR];split
  ·exact h1
  ·split
   ·rename_i k hk;have:=Pw p k;have:=Re.bN (ai4 hk);omega
   ·exact h1
theorem Gg (hq:∀(r:Re) (l:List Re),l.length=r.kids.length->q r=true->q (r.oD l)=true){l:List Re} (h:q re=true) (hl:l.length=re.kids.length) (hk:∀k∈l,k.every q=true):(re.oD l).every q=true:=by refine(Re.av _).2 ⟨hq re l hl h,λk tz=>hk k ?_⟩;cases re;exact tz
theorem HN {q:Re->Bool} (hq:∀(r:Re) (l:List Re),l.length=r.kids.length->q r=true->q (r.oD l)=true) (hz:gi.every q=true) {x:Re} (hx:x.every q=true):∀(p:List Int) (re:Re),re.every q=true->(re.pY p x).1.every q=true
 |[],re,h=>by cases re;exact hx
 |i::p,re,h=>by
  rw[Re.pY];split
  ·exact hz
  ·rename_i hb;split
   ·rename_i k hk;obtain⟨h1,h2⟩:=(Re.av re).1 h;have aB:=(List.getElem?_eq_some_iff.1 hk).1;split
    ·exact hz
    ·refine Gg hq h1 ?_ ?_
     ·simp;omega
     ·intro y hy;rcases List.mem_append.1 hy with hy|hy
      ·exact h2 y (ajT hy)
      ·rcases List.mem_cons.1 hy with rfl|hy
       ·exact HN hq hz hx p k (h2 k (ai4 hk))
       ·exact h2 y (akk hy)
   ·exact hz
theorem IU (re:Re) (l:List Re):(re.oD l).size=1+Re.bT l:=by cases re;simp [Re.oD,Re.size]
theorem JS (x:Re):∀(p:List Int) (re:Re),(re.pY p x).1.size<=re.size+x.size
 |[],re=>by cases re;simp [Re.pY]
 |i::p,re=>by
  have h1:=re.size_pos;have hz:gi.size=1:=rfl;rw[Re.pY];split
  ·simp only[hz];omega
  ·split
   ·rename_i k hk;have aB:=(List.getElem?_eq_some_iff.1 hk).1;have:=JS x p k;split
    ·simp only[hz];omega
    ·simp only[IU,Re.gX,Re.bT];have e:re.kids=re.kids.take i.toNat++k::re.kids.drop (i.toNat+1):=by have hd:=List.drop_eq_getElem_cons aB;rw[ajg aB]at hk;simp only[ai5]at hk;rw[<- hk,<- hd,aku]
     have es:Re.bT re.kids=Re.bT (re.kids.take i.toNat)+(k.size+Re.bT (re.kids.drop (i.toNat+1))):=by
      conv=>lhs;rw[e]
      rw[Re.gX,Re.bT]
     rw[Re.size_eq re,es];omega
   ·simp only[hz];omega
theorem Eo (c:Nat) (r:Re) (l:List Re) (hl:l.length=r.kids.length) (h:fl c r=true):fl c (r.oD l)=true:=by obtain⟨⟨h1,h2,h3⟩,h4⟩:=je.1 h;cases r;exact je.2 ⟨⟨h1,by show l.length<=c;omega,h3⟩,h4⟩
theorem hZ (h1:set.length<=c) (h2:kids.length<=c) (h3:fx op/\fx mn/\fx mx/\fx mode/\fx n) (h4:∀s∈set,fx s.1/\fx s.2) (h5:∀k∈kids,k.every (fl c)=true):(Re.mk op set kids mn mx mode n neg).every (fl c)=true :=
 (Re.av _).2 ⟨je.2 ⟨⟨h1,h2,h3⟩,h4⟩,h5⟩
theorem eA (n m:Int) (hm:1<=m) (hn:fx n):0<=cZ n m/\cZ n m<m:=by
 unfold fx at hn;unfold cZ;split
 ·exact⟨Int.tmod_nonneg _ ae,Int.tmod_lt_of_pos _ ae⟩
 ·exact⟨Int.tmod_nonneg _ ae,Int.tmod_lt_of_pos _ ae⟩
theorem te (l:List Int) (n:Int) (h0:0<=n) (h1:n<l.length) (hl:∀x∈l,fx x):∃v,fx v/\(l.map λx=>[iD x])[n.toNat]?=some [iD v]:=by have aB:n.toNat<l.length:=ae;exact⟨l[n.toNat],hl _ (List.getElem_mem aB),by rw[aiY,ajg aB];rfl⟩
theorem fA:bS re ai top=true ↔
  (0<=re.op/\re.op<=11/\(cw re.op).1<=re.kids.length/\((cw re.op).2<0\/(re.kids.length:Int)<=(cw re.op).2)) /\
  (if re.op=1 then iZ re.set top=true else re.set.length=0) /\
  (if re.op=4 then (0<=re.mn/\re.mn<=32/\-1<=re.mx/\re.mx≠0/\re.mx<=32/\(0<re.mx->re.mn<=re.mx)/\0<=re.mode/\re.mode<=2) else (re.mn=0/\re.mx=0/\re.mode=0)) /\
  (if re.op=5\/re.op=6\/re.op=10 then (1<=re.n/\re.n<=ai) else if re.op=11 then (0<=re.n/\re.n<=5) else re.n=0) /\
  (re.neg=true->re.op=7\/re.op=8):=by
 unfold bS;simp only[aji,decide_eq_true_eq];refine and_congr Iff.rfl (and_congr ?_ (and_congr ?_ (and_congr ?_ ?_)))
 ·split <;> simp
 ·split <;> simp only[decide_eq_true_eq]
 ·split
  ·simp only[decide_eq_true_eq]
  ·split <;> simp only[decide_eq_true_eq]
 ·cases re.neg <;> simp
theorem KT (h:ai<=J1) (hn:bS re ai top=true):bS re J1 top=true:=by
 rw[fA]at *;obtain⟨a,b,c,d,e⟩:=hn;refine⟨a,b,c,?_,e⟩;split
 ·rename_i hh;rw[be hh]at d;omega
 ·rename_i hh;rw[ap hh]at d;exact d
theorem Dv (h:ai<=J1) (hn:re.whole ai top=true):re.whole J1 top=true :=
 dN (λr hr=>KT h hr) re hn
theorem pA (h:bS (.mk op set kids mn mx mode n neg) ai top=true) (hk:∀k∈kids,k.whole ai top=true):(Re.mk op set kids mn mx mode n neg).whole ai top=true :=
 (Re.av _).2 ⟨h,hk⟩
theorem Re.zw (hb:0<=b) (hk:∀k∈kids,k.depth<=b):(Re.mk op set kids mn mx mode n neg).depth<=b+1:=by rw[Re.mc];have:=oN (b:=b) (kids.map Re.depth) 0 hb (λx hx=>by obtain⟨k,tz,rfl⟩:=List.mem_map.1 hx;exact hk k tz);show rP (kids.map Re.depth)+1<=_;unfold rP;omega
structure Zj (d:Nat) (m:Mk) (x:Re×Mk):Prop where
 ai:m.ai<=x.2.ai
 ok:x.1.whole x.2.ai 255=true
 dep:x.1.depth<=d+1
 size:(x.1.size:Int)<=m.left-x.2.left
 low:m.left<=3->m.left-1<=x.2.left
 high:4<=m.left->2-4*(d:Int)<=x.2.left
structure TT (d:Nat) (t:Mk->Re×Mk) (c z:Int):Prop where
 qW:Good t c z
 c0:0<=c
 z1:1<=z
 tok:∀m b,0<=b->Mk.In m b->Zj d m (t m)
theorem Zj.one {d:Nat} (h:Zj d m x) {B:Int} (h1:B<=2-4*(d:Int)) (h2:B<=m.left):B-1<=x.2.left:=by have:=h.low;have:=h.high;omega
structure FOK (d f:Nat) (m:Mk) (x:List Re×Mk):Prop where
 ai:m.ai<=x.2.ai
 ok:∀k∈x.1,k.whole x.2.ai 255=true
 dep:∀k∈x.1,k.depth<=d+1
 size:(Re.bT x.1:Int)<=m.left-x.2.left
 bnd:∀B:Int,B<=2-4*(d:Int)->B<=m.left->B-f<=x.2.left
theorem BS {d:Nat}{t:Mk->Re×Mk}{c z:Int} (ht:TT d t c z):∀(f:Nat) (i:Int) (m:Mk) (b:Int),0<=b->m.In b->FOK d f m (bE t f i m)
 |0,i,m,b,hb,h=>⟨ajs _,by simp [bE],by simp [bE],by simp [bE,Re.bT],λB _ h2=>by simpa [bE]using h2⟩
 |f+1,i,m,b,hb,h=>by
  simp only[bE];split
  ·have h1:=h.next 2;have h2:=ht.tok _ (b+1) ae h1;obtain⟨h3,_⟩:=ht.qW _ (b+1) ae h1;have h4:=BS ht f (i+1) _ (b+1+c) (by have:=ht.c0;omega) h3;refine⟨Int.le_trans h2.ai h4.ai,?_,?_,?_,?_⟩
   ·intro k hk;rcases List.mem_cons.1 hk with rfl|hk
    ·exact Dv h4.ai h2.ok
    ·exact h4.ok k hk
   ·intro k hk;rcases List.mem_cons.1 hk with rfl|hk
    ·exact h2.dep
    ·exact h4.dep k hk
   ·have a:=h2.size;have a':=h4.size;simp only[Re.bT,aj9];have e:(m.next 2).2.left=m.left:=rfl;omega
   ·intro B WQ hB2;have:=h4.bnd (B-1) ae (h2.one WQ hB2);simp only[aj9];omega
  ·exact⟨ajs _,aj,aj,by simp [Re.bT,Mk.next],λB _ h2=>by simp only[Mk.next];omega⟩
theorem HW (m:Mk):2<=(bE t 4 0 m).1.length:=by have hp:=cB m.l m.pos 2 ae;rw[bE,be (by simp only[Mk.next];omega)];simp only[ai8];generalize (t (m.next 2).2).2=m';have hp':=cB m'.l m'.pos 2 ae;rw[bE,be (by simp only[Mk.next];omega)];simp
structure YV (d:Nat) (m:Mk) (x:Re×Mk):Prop where
 ai:m.ai<=x.2.ai
 ok:x.1.whole x.2.ai 255=true
 dep:x.1.depth<=d+2
 size:(x.1.size:Int)<=1+(m.left-x.2.left)
 bnd:∀B:Int,B<=2-4*(d:Int)->B<=m.left->B-4<=x.2.left
theorem wz (m:Mk) (ai:Int):m.set.1.whole ai 255=true:=by
 have hs:∀i:Nat,iZ ((rD[i]?).getD []) 255=true:=by
  intro i;by_cases hi:i<8
  ·have:∀i,i<8->iZ ((rD[i]?).getD []) 255=true:=by decide
   exact this i hi
  ·rw[ajH (by simp [rD];omega)];rfl
 refine pA (fA.2 ?_) (λk hk=>by cases hk);refine⟨⟨by simp [Re.op],by simp [Re.op],by simp [Re.op,cw],by simp [Re.op,cw,Re.kids]⟩,?_,?_,?_,?_⟩
 ·show (if (1:Int)=1 then iZ ((rD[(pick m.l m.pos 15 / 2).toNat]?).getD []) 255=true else _);rw[be rfl];exact hs _
 ·rw[ap (by simp [Re.op])];exact⟨rfl,rfl,rfl⟩
 ·rw[ap (by simp [Re.op]),ap (by simp [Re.op])];rfl
 ·intro h;simp [Re.neg]at h
theorem C8 (m:Mk):m.set.1.depth=1:=rfl
theorem Af (m:Mk):m.set.1.size=1:=rfl
theorem Wd (d:Nat) (m:Mk):YV d m m.set :=
 ⟨ajs _,wz m _,by rw[C8];omega,by rw[Af];simp [Mk.set,Mk.next],λB _ h=>by simp only[Mk.set,Mk.next];omega⟩
theorem CI{m':Mk} (h:Zj d m' x) (hc:m.ai<=m'.ai) (hl:m'.left=m.left)
  (hn:bS (.mk op [] [x.1] mn mx mode n neg) x.2.ai 255=true):YV d m (.mk op [] [x.1] mn mx mode n neg,x.2):=by
 refine⟨Int.le_trans hc h.ai,pA hn (λk hk=>by rw[List.mem_singleton.1 hk];exact h.ok),?_,?_,?_⟩
 ·exact Re.zw (b:=d+1) ae (λk hk=>by rw[List.mem_singleton.1 hk];exact h.dep)
 ·show ((Re.mk op [] [x.1] mn mx mode n neg).size:Int)<=1+(m.left-x.2.left)
  rw[uC];have:=h.size;omega
 ·intro B h1 h2;have:=h.one h1 ae;show B-4<=x.2.left;omega
theorem Kt{m':Mk} (hc:m.ai=m'.ai) (hl:m'.left=m.left)
  (hn:bS (.mk op [] [] mn mx mode n neg) m'.ai 255=true):YV d m (.mk op [] [] mn mx mode n neg,m'):=by
 refine⟨by rw[hc];exact ajs _,pA hn (λk hk=>by cases hk),?_,?_,?_⟩
 ·have:=Re.zw (op:=op) (set:=[]) (mn:=mn) (mx:=mx) (mode:=mode) (n:=n) (neg:=neg) (b:=0) (kids:=[]) ae (λk hk=>by cases hk);show (Re.mk op [] [] mn mx mode n neg).depth<=_;omega
 ·show ((Re.mk op [] [] mn mx mode n neg).size:Int)<=1+(m.left-m'.left);rw[hl];simp [Re.size,Re.bT]
 ·intro B h1 h2;show B-4<=m'.left;omega
theorem ic (h0:0<=op/\op<=11) (h1:op≠1) (h4:op≠4) (hk:(cw op).1<=kids.length/\((cw op).2<0\/(kids.length:Int)<=(cw op).2))
  (hn:if op=5\/op=6\/op=10 then (1<=n/\n<=ai) else if op=11 then (0<=n/\n<=5) else n=0) (e8:neg=true->op=7\/op=8):bS (.mk op [] kids 0 0 0 n neg) ai 255=true:=by
 refine fA.2 ⟨⟨h0.1,h0.2,hk.1,hk.2⟩,?_,?_,hn,e8⟩
 ·rw[ap (by exact h1)];rfl
 ·rw[ap (by exact h4)];exact⟨rfl,rfl,rfl⟩
theorem Nl (h:Zj d m (t m)):Zj d m (mA t m):=by
 unfold mA;simp only;split
 ·have h1:=h.size;have h2:=(t m).1.size_pos;exact⟨h.ai,wz _ _,by rw[C8];omega,by rw[Af];show ((1:Nat):Int)<=m.left-(t m).2.left;omega,h.low,h.high⟩
 ·exact h
theorem I1 (m:Mk):(jB m).2.ai=m.ai/\(jB m).2.left=m.left/\0<=(jB m).1/\(jB m).1<=2:=by
 have hp:=cB m.l m.pos 2 ae;unfold jB;simp only;split
 ·refine⟨rfl,rfl,?_,?_⟩ <;> (split <;> simp only[Mk.next] <;> omega)
 ·refine⟨rfl,rfl,?_,?_⟩ <;> simp only[Mk.next] <;> omega
theorem Vb{c:Int} (ht:TT d t c z) (hb:0<=b) (h:m.In b):YV d m (m.rep t):=by
 have hk:=cB m.l m.pos 12 ae;have hi:=Fo (h.next 12);obtain⟨r1,r2,r3,r4⟩:=I1 (m.next 12).2;have h2:=Nl (ht.tok _ (b+1+2) ae hi);simp only[Mk.rep];refine CI h2 (by rw[r1];exact ajs _) (by rw[r2];rfl) (fA.2 ⟨⟨by simp [Re.op],by simp [Re.op],by simp [Re.op,cw,Re.kids],by simp [Re.op,cw,Re.kids]⟩,?_,?_,?_,?_⟩)
 ·rw[ap (by simp [Re.op])];rfl
 ·rw[be (by simp [Re.op])];have key:∀i:Nat,i<12->0<=(nA[i]?).getD 0/\(nA[i]?).getD 0<=32/\-1<=(kZ[i]?).getD 0/\(kZ[i]?).getD 0≠0/\(kZ[i]?).getD 0<=32/\(0<(kZ[i]?).getD 0->(nA[i]?).getD 0<=(kZ[i]?).getD 0):=aJ;obtain⟨k1,k2,k3,k4,k5,k6⟩:=key (pick m.l m.pos 12).toNat ae;exact⟨k1,k2,k3,k4,k5,k6,r3,r4⟩
 ·rw[ap (by simp [Re.op]),ap (by simp [Re.op])];rfl
 ·intro h;simp [Re.neg]at h
theorem Km (m:Mk):(fk m).2.left=m.left:=by
 unfold fk;simp only;split
 ·rfl
 ·split
  ·split <;> rfl
  ·rfl
theorem BC{c:Int} (ht:TT d t c z) (hb:0<=b) (h:m.In b):YV d m (m.jE t):=by
 obtain⟨h1,h2,h3,h4⟩:=Bc h;have hl:=Km m;simp only[Mk.jE];have iU:((fk m).2.mb (max (fk m).2.ai (fk m).1)).In (b+2):=⟨h1.l,h1.p0,h1.p1,h1.l0,h1.l1,by show 0<=max _ _;omega,by have:=h.c1;show max _ _<=4;omega⟩
 have hx:=ht.tok _ (b+2) ae iU;have BK:(fk m).1<=(t ((fk m).2.mb (max (fk m).2.ai (fk m).1))).2.ai:=Int.le_trans (by show _<=max _ _;omega) hx.ai;refine CI hx (by show m.ai<=max _ _;omega) hl (ic ae ae ae (by simp [cw]) ?_ aj);rw[be (.inl rfl)];exact⟨h3,BK⟩
theorem EU{x:List Re×Mk} (h:FOK d 4 m x) (ho:op=2\/op=3) (hl:2<=x.1.length):YV d m (Re.node op x.1,x.2):=by
 refine⟨h.ai,pA (ic ae ae ae ?_ ?_ aj) h.ok,Re.zw (b:=d+1) ae h.dep,?_,?_⟩
 ·unfold cw;rw[be ho];exact⟨by show (2:Int)<=_;omega,.inl (by show (-1:Int)<0;omega)⟩
 ·rw[bd,bd]
 ·show ((Re.node op x.1).size:Int)<=_;have:=h.size;simp only[Re.node,Re.size,aj9];show ((1:Nat):Int)+(Re.bT x.1:Int)<=1+(m.left-x.2.left)
  omega
 ·intro B h1 h2;exact h.bnd B h1 h2
theorem SC{c:Int} (ht:TT d t c z) (k:Int) (hb:0<=b) (h:m.In b):YV d m (Mk.node t k m):=by
 have hf:=BS ht 4 0 m b hb h;have hl:=HW (t:=t) m;have LV:=ht.c0;unfold Mk.node;split
 ·exact EU hf (.inl rfl) hl
 split
 ·exact EU hf (.inr rfl) hl
 split
 ·exact Vb ht hb h
 split
 ·exact BC ht hb h
 split
 ·exact BC ht hb h
 split
 ·have hp:=cB m.l m.pos 6 ae;refine Kt rfl rfl (ic ae ae ae (by simp [cw]) ?_ aj);rw[bd,be rfl];simp only[Mk.next];omega
 split
 ·have hp:=cB (m.next 3).2.l (m.next 3).2.pos 2 ae;have hx:=ht.tok _ (b+2) ae (((h.next 3).next 2).mono ae);have CV:((m.next 3).2.next 2).1=0\/((m.next 3).2.next 2).1=1:=by simp only[Mk.next]at hp ⊢;omega
  refine CI hx (ajs _) rfl (ic ?_ ?_ ?_ ?_ ?_ ?_)
  ·omega
  ·omega
  ·omega
  ·rcases CV with e|e <;> rw[e] <;> simp [cw]
  ·rcases CV with e|e <;> rw[e] <;> simp
  ·intro _;omega
 split
 ·exact CI (ht.tok m b hb h) (ajs _) rfl (ic ae ae ae (by simp [cw]) aj aj)
 split
 ·rename_i Dx;have Bj:0<m.ai:=Dx.2.2;have hp:=cB m.l m.pos m.ai ae;refine Kt rfl rfl (ic ae ae ae (by simp [cw]) ?_ aj);rw[be (.inr (.inl rfl))];simp only[Mk.next];omega
 split
 ·rename_i Dx;have Bj:0<m.ai:=Dx.2.2;have hp:=cB m.l m.pos m.ai ae;have h1:=h.next m.ai;have hy:=ht.tok _ (b+1) ae h1;obtain⟨h2,_⟩:=ht.qW _ (b+1) ae h1;have hz:=ht.tok _ (b+1+c) ae h2;have e1:(m.next m.ai).2.ai=m.ai:=rfl;have e2:(m.next m.ai).2.left=m.left:=rfl;simp only;refine⟨Int.le_trans hy.ai hz.ai,pA (ic ae ae ae (by simp [cw]) ?_ aj) ?_,Re.zw (b:=d+1) ae ?_,?_,?_⟩
  ·rw[be (.inr (.inr rfl))];have:=Int.le_trans hy.ai hz.ai;simp only[Mk.next]at this hp ⊢;omega
  ·intro x hx;rcases List.mem_cons.1 hx with rfl|hx
   ·exact Dv hz.ai hy.ok
   ·rw[List.mem_singleton.1 hx];exact hz.ok
  ·intro x hx;rcases List.mem_cons.1 hx with rfl|hx
   ·exact hy.dep
   ·rw[List.mem_singleton.1 hx];exact hz.dep
  ·have a1:=hy.size;have a2:=hz.size;simp only[Re.size,Re.bT,aj9];omega
  ·intro B WQ hB2;have b1:=hy.one WQ ae;have b2:=hz.one (B:=B-1) ae b1;show B-4<=(t (t (m.next m.ai).2).2).2.left;omega
 ·exact Wd d m
theorem v7:∀d,TT d (Mk.tree d) (cD d) (zD d)
 |0=>by
  refine⟨ky 0,by have:=lK 0;omega,AO 0,λm b hb h=>?_⟩;simp only[Mk.tree];have el:(m.less.next 20).2.left=m.left-1:=rfl;have ec:(m.less.next 20).2.ai=m.ai:=rfl;split
  ·have hn:bS (Re.node 0 []) (m.less.next 20).2.ai 255=true:=ic ae ae ae (by simp [cw]) aj aj;exact⟨by rw[ec];exact ajs _,pA hn (λk hk=>by cases hk),by show (1:Int)<=_;omega,by show ((1:Nat):Int)<=m.left-(m.less.next 20).2.left;omega,λ_=>by show _<=(m.less.next 20).2.left;omega,λ_=>by show _<=(m.less.next 20).2.left;omega⟩
  ·have e1:(m.less.next 20).2.set.2.left=m.left-1:=rfl;exact⟨ajs _,wz _ _,by rw[C8];omega,by rw[Af];omega,λ_=>ae,λ_=>ae⟩
 |d+1=>by
  refine⟨ky (d+1),by have:=lK (d+1);omega,AO (d+1),λm b hb h=>?_⟩;simp only[Mk.tree];have el:(m.less.next 20).2.left=m.left-1:=rfl;have ec:(m.less.next 20).2.ai=m.ai:=rfl;split
  ·split
   ·have hn:bS (Re.node 0 []) (m.less.next 20).2.ai 255=true:=ic ae ae ae (by simp [cw]) aj aj;exact⟨by rw[ec];exact ajs _,pA hn (λk hk=>by cases hk),by show (1:Int)<=_;omega,by show ((1:Nat):Int)<=m.left-(m.less.next 20).2.left;omega,λ_=>by show _<=(m.less.next 20).2.left;omega,λ_=>by show _<=(m.less.next 20).2.left;omega⟩
   ·have e1:(m.less.next 20).2.set.2.left=m.left-1:=rfl;exact⟨ajs _,wz _ _,by rw[C8];omega,by rw[Af];omega,λ_=>ae,λ_=>ae⟩
  ·rename_i Dx;have V7:¬(m.less.next 20).2.left<3:=λhh=>Dx (.inl hh);have hn:=SC (v7 d) (m.less.next 20).1 (b:=b+1+1) ae (h.left.next 20);refine⟨Int.le_trans (by rw[ec];exact ajs _) hn.ai,hn.ok,?_,?_,λhh=>ae,λ_=>?_⟩
   ·have:=hn.dep;simp only[aj9];omega
   ·have:=hn.size;omega
   ·have:=hn.bnd (2-4*(d:Int)) (ajs _) ae;simp only[aj9];omega
theorem Bk (l:List Int) (dC most:Int) (hl:∀x∈l,fx x) (h0:0<=most) (h1:most<=100):cz (mO l dC most)=0/\(mO l dC most).re.size<=256:=by
 have iU:(⟨l,0,dC,most,0⟩:Mk).In 0:=⟨hl,aj,aj,by simpa using h0,by show most<=_;omega,aj,aj⟩
 have h:=(v7 5).tok ⟨l,0,dC,most,0⟩ 0 ae iU;obtain⟨g,_⟩:=(v7 5).qW ⟨l,0,dC,most,0⟩ 0 ae iU;have fY:=h.size;have Za:=h.low;have aa3:=h.high;have aaX:=h.dep;have jA:=h.ok;have hs:(mO l dC most).re.size<=256:=by show (Mk.tree 5 ⟨l,0,dC,most,0⟩).1.size<=256;simp only at fY Za aa3;omega
 refine⟨?_,hs⟩;unfold cz;rw[ap,ap]
 ·rintro (h'|h'|h')
  ·have:=g.c0;have Xh:(Mk.tree 5 ⟨l,0,dC,most,0⟩).2.ai<0:=h';omega
  ·have:=g.c1;have Xh:9<(Mk.tree 5 ⟨l,0,dC,most,0⟩).2.ai:=h';omega
  ·have Xh:(Mk.tree 5 ⟨l,0,dC,most,0⟩).1.whole (Mk.tree 5 ⟨l,0,dC,most,0⟩).2.ai 255=false:=h';rw[jA]at Xh;cases Xh
 ·rintro (h'|h')
  ·omega
  ·have Xh:24<(Mk.tree 5 ⟨l,0,dC,most,0⟩).1.depth:=h';omega
theorem Xc {top:Int}:∀(l:List (Int×Int)) (p:Int),sh top p l=true->∀s∈l,0<=s.1/\s.1<=top/\0<=s.2/\s.2<=top
 |[],p,h,s,hs=>by cases hs
 |x::l,p,h,s,hs=>by
  simp only[sh,aji,decide_eq_true_eq]at h;rcases List.mem_cons.1 hs with rfl|hs
  ·omega
  ·exact Xc l x.2 h.2 s hs
theorem MA (hc:64<=c) (ht:top<=1114111) (Bj:ai<=1000000) (h:bS re ai top=true) (hk:re.kids.length<=c):fl c re=true:=by
 obtain⟨h1,h2,h3,h4,h5⟩:=fA.1 h;have gD:re.set.length<=64/\∀s∈re.set,fx s.1/\fx s.2:=by
  split at h2
  ·simp only[iZ,aji,decide_eq_true_eq]at h2;refine⟨h2.1,λs hs=>?_⟩;have:=Xc _ _ h2.2 s hs;unfold fx;omega
  ·have hn:re.set=[]:=ajB h2;rw[hn];exact⟨aj,λs hs=>by cases hs⟩
 refine je.2 ⟨⟨ae,hk,?_,?_,?_,?_,?_⟩,gD.2⟩
 ·unfold fx;omega
 ·unfold fx;split at h3 <;> omega
 ·unfold fx;split at h3 <;> omega
 ·unfold fx;split at h3 <;> omega
 ·unfold fx;split at h4
  ·omega
  ·split at h4 <;> omega
theorem Hp (l:List Int) (dC most:Int) (hl:∀x∈l,fx x) (h0:0<=most) (h1:most<=100):(mO l dC most).small 256:=by
 have iU:(⟨l,0,dC,most,0⟩:Mk).In 0:=⟨hl,aj,aj,by simpa using h0,by show most<=_;omega,aj,aj⟩
 have h:=(v7 5).tok ⟨l,0,dC,most,0⟩ 0 ae iU;obtain⟨g,_⟩:=(v7 5).qW ⟨l,0,dC,most,0⟩ 0 ae iU;obtain⟨_,hs⟩:=Bk l dC most hl h0 h1;have LV:=g.c0;have vO:=g.c1;refine⟨?_,hs,by show fx (Mk.tree 5 ⟨l,0,dC,most,0⟩).2.ai;unfold fx;omega⟩;have jA:(mO l dC most).re.whole (Mk.tree 5 ⟨l,0,dC,most,0⟩).2.ai 255=true:=h.ok;revert jA hs;generalize (mO l dC most).re=re;intro hs jA;refine Re.ind (Q:=λre=>re.size<=256->re.whole (Mk.tree 5 ⟨l,0,dC,most,0⟩).2.ai 255=true->re.every (fl 256)=true) (λre ih hs jA=>?_) re hs jA;obtain⟨a1,a2⟩:=(Re.av re).1 jA;have:=Re.mP re.kids;have:=Re.size_eq re;exact(Re.av re).2 ⟨MA ae ae ae a1 ae,λk hk=>ih k hk (by have:=Re.bN hk;omega) (a2 k hk)⟩
def eE (aF:Bool) (x:Int):Bool:=decide (0<=x)&&decide (x<=hU aF)
def dp (p:eJ) (t:List Int) (fuel:Int):Int :=
 if cz p≠0 then cz p else if 65536<t.length then 4 else if t.all (eE p.aF)=false then 1 else if fuel<0\/1099511627776<fuel then 1 else 0
theorem xC {α:Type}{P:α->Bool}{l:List α}{i:Nat}{x:α} (hx:l[i]?=some x) (h:(l.take i).all P=true) (hp:P x=true):(l.take (i+1)).all P=true:=by rw[List.take_add_one,hx,akm,h];simp [hp]
theorem all_false {α:Type}{P:α->Bool}{l:List α}{i:Nat}{x:α} (hx:l[i]?=some x) (hp:P x=false):l.all P=false:=by rw[ajO];intro h;rw[ajo]at h;rw[h x (ai4 hx)]at hp;cases hp
theorem wA (p:eJ) (t:List Int) (fuel:Int) (hf:p.re.cN=true) (hs:p.re.size<=1000000000) (ht:t.length<=1000000000) :
  aM prog 49 [aE p,.d (an t),i64 fuel] (i64 (dp p t fuel)):=by
 have h1:=nE p hf hs;unfold dp;cases p with
 |mk re ai aF =>
 simp only[aE,Re.ah re,aiZ,ai2,aiX,ai0,i64,iD,bD,bV]at h1;simp only at *;generalize hv:cz ⟨re,ai,aF⟩=v at *;refine bk func49 ntmps49 results49 0 975 ?_;simp only[zI,simprocAttr,aE,Re.ah re,bV,iD,bD];refine bO h1 ?_;simp only[zI,simprocAttr,aE,bV,iD,bD];by_cases c0:v=0
 case neg =>
  rw[be c0];simp only[zI,simprocAttr,aE,bV,iD,bD,c0]
 subst c0;rw[bd];by_cases c1:65536<t.length
 ·rw[be c1];have c1':(65536:Int)<t.length:=ae;simp only[zI,simprocAttr,aE,bV,iD,bD,gt_iff_lt,c1']
 rw[ap c1];have c1':¬(65536:Int)<t.length:=ae;cases aF
 ·simp only[zI,simprocAttr,aE,bV,iD,bD,gt_iff_lt,c1'];refine ay (λn e s=>∃i:Nat,n=t.length-i/\i<=t.length/\e 1=.d (an t)/\e 2=i64 fuel/\e 8=i64 (hU false)/\e 9=i64 i/\(t.take i).all (eE false)=true)
   ⟨_,_,_,bJ.refl,0,rfl,ae,rfl,rfl,rfl,rfl,aj⟩ ?_
  rintro n e s ⟨i,rfl,hi,h1,h2,h8,h9,bK⟩;rcases ajr i t.length with aB|iA
  ·obtain⟨x,hx⟩:∃x,t[i]?=some x:=bZ aB;have aH:(i:Int)<t.length:=ae;simp only[zI,simprocAttr,h1,h2,h8,h9,aH,an,hx,iD];by_cases d1:x<0
   ·simp only[zX,simprocAttr,d1];rw[be (all_false hx (by rw[eE,ce ae];rfl))]
   ·by_cases d2:hU false<x
    ·simp only[zX,simprocAttr,d1,d2,gt_iff_lt,i64,h1,h2,h8,h9,aH,aB,an,hx,iD];rw[be (all_false hx (by rw[eE,ce (by omega:¬x<=hU false),Bool.and_false]))]
    ·simp only[zX,simprocAttr,d1,d2,gt_iff_lt,i64,h1,h2,h8,h9,aH,aB,an,hx,iD];refine⟨t.length-(i+1),_,_,ae,bJ.refl,i+1,rfl,aB,?_,?_,?_,?_,?_⟩ <;> (try simp only[zU,gV,cy,cJ,dV,reduceIte])
     ·exact h1
     ·exact h2
     ·exact h8
     ·rw[bF _ ae];rfl
     ·exact xC hx bK (by rw[eE,bi ae,bi ae];rfl)
  ·have dY:i=t.length:=by omega
   subst dY;have aH:¬(t.length:Int)<t.length:=ae;rw[ajt]at bK;rw[bK,ap aJ];simp only[zI,simprocAttr,h1,h2,h9,aH,an];by_cases d1:fuel<0
   ·simp only[zX,simprocAttr,d1]
   ·by_cases d2:1099511627776<fuel
    ·simp only[zX,simprocAttr,d1,d2,gt_iff_lt,i64,h1,h2]
    ·simp only[zX,simprocAttr,d1,d2,gt_iff_lt,i64,h1,h2]
 ·simp only[zI,simprocAttr,aE,bV,iD,bD,gt_iff_lt,c1'];refine ay (λn e s=>∃i:Nat,n=t.length-i/\i<=t.length/\e 1=.d (an t)/\e 2=i64 fuel/\e 8=i64 (hU true)/\e 9=i64 i/\(t.take i).all (eE true)=true)
   ⟨_,_,_,bJ.refl,0,rfl,ae,rfl,rfl,rfl,rfl,aj⟩ ?_
  rintro n e s ⟨i,rfl,hi,h1,h2,h8,h9,bK⟩;rcases ajr i t.length with aB|iA
  ·obtain⟨x,hx⟩:∃x,t[i]?=some x:=bZ aB;have aH:(i:Int)<t.length:=ae;simp only[zI,simprocAttr,h1,h2,h8,h9,aH,an,hx,iD];by_cases d1:x<0
   ·simp only[zX,simprocAttr,d1];rw[be (all_false hx (by rw[eE,ce ae];rfl))]
   ·by_cases d2:hU true<x
    ·simp only[zX,simprocAttr,d1,d2,gt_iff_lt,i64,h1,h2,h8,h9,aH,aB,an,hx,iD];rw[be (all_false hx (by rw[eE,ce (by omega:¬x<=hU true),Bool.and_false]))]
    ·simp only[zX,simprocAttr,d1,d2,gt_iff_lt,i64,h1,h2,h8,h9,aH,aB,an,hx,iD];refine⟨t.length-(i+1),_,_,ae,bJ.refl,i+1,rfl,aB,?_,?_,?_,?_,?_⟩ <;> (try simp only[zU,gV,cy,cJ,dV,reduceIte])
     ·exact h1
     ·exact h2
     ·exact h8
     ·rw[bF _ ae];rfl
     ·exact xC hx bK (by rw[eE,bi ae,bi ae];rfl)
  ·have dY:i=t.length:=by omega
   subst dY;have aH:¬(t.length:Int)<t.length:=ae;rw[ajt]at bK;rw[bK,ap aJ];simp only[zI,simprocAttr,h1,h2,h9,aH,an];by_cases d1:fuel<0
   ·simp only[zX,simprocAttr,d1]
   ·by_cases d2:1099511627776<fuel
    ·simp only[zX,simprocAttr,d1,d2,gt_iff_lt,i64,h1,h2]
    ·simp only[zX,simprocAttr,d1,d2,gt_iff_lt,i64,h1,h2]
end Go.Proofs.Ytfmdmlfhigocaaa
