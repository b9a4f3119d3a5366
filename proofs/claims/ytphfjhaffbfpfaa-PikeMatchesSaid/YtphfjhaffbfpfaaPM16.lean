/- A part of the proof (G20). -/
import Derived.Test.YtphfjhaffbfpfaaPM15
import Derived.Test.YtphfjhaffbfpfaaPM14
set_option linter.all false
set_option maxRecDepth 100000
set_option maxHeartbeats 80000000
namespace Go.Proofs.Ytphfjhaffbfpfaa
open Go.VL Go.Proofs.Try
structure ra where
 s:Int
 e:Int
 c:aC
deriving DecidableEq
def ra.v (m:ra):V:=.ag [i64 m.s,i64 m.e,.d (bQ m.c)]
theorem Ew (a b:ra) (hc:a.c.length<=1000000000):ba prog 9 [a.v,b.v] (bV (decide (a=b))):=by
 obtain⟨s1,e1,c1⟩:=a;obtain⟨s2,e2,c2⟩:=b;simp only at hc;refine ar func9 rfl ntmps9 results9 rfl 0 63 (by simp) (by simp) ?_;by_cases q1:s1=s2
 case neg =>
  simp only[zX,simprocAttr,-Int.reduceNatCast',i64,iD,bQ,ra.v,q1];rw[adl (λh=>q1 (by simp only[ra.mk.injEq]at h;exact h.1))];rfl
 by_cases q2:e1=e2
 case neg =>
  simp only[zX,simprocAttr,-Int.reduceNatCast',i64,iD,bQ,ra.v,q1,q2];rw[adl (λh=>q2 (by simp only[ra.mk.injEq]at h;exact h.2.1))];rfl
 by_cases q3:(c1.length:Int)=c2.length
 case neg =>
  simp only[zX,simprocAttr,-Int.reduceNatCast',i64,iD,bQ,ra.v,q1,q2,q3,ado];rw[adl (λh=>q3 (by simp only[ra.mk.injEq]at h;rw[h.2.2]))];rfl
 subst q1 q2;simp only[zX,simprocAttr,-Int.reduceNatCast',i64,iD,bQ,ra.v,q3,ado];refine aJ (λn e s=>∃i:Nat,n=c1.length-i/\i<=c1.length/\e 2=.rf 0 0 0 0/\e 3=.rf 1 0 0 0/\e 5=i64 i/\s=[⟨0,true,3,[[i64 s1,i64 e1,.d (bQ c1)]]⟩,⟨0,true,3,[[i64 s1,i64 e1,.d (bQ c2)]]⟩]/\c1.take i=c2.take i)
  ⟨_,_,_,cU.refl,0,rfl,by omega,rfl,rfl,rfl,rfl,rfl⟩ ?_
 rintro n e s ⟨i,rfl,hi,h2,h3,h5,rfl,tG⟩;rcases adV i c1.length with aH|iP
 ·have za:i<c2.length:=by omega
  have bo:(i:Int)<c2.length:=by omega
  obtain⟨x,hx⟩:∃x,c1[i]?=some x:=⟨_,adn aH⟩
  obtain⟨y,hy⟩:∃y,c2[i]?=some y:=⟨_,adn za⟩
  simp only[zX,simprocAttr,-Int.reduceNatCast',i64,bQ,h2,h3,h5,aH,za,q3,bo,ado];refine ao mix [] [] (by rfl) ?_;simp only[zX,simprocAttr,-Int.reduceNatCast',i64,bQ,h2,h3,h5,aH,za,hx,hy,iD,aN,q3,bo,ado];by_cases K0:x=y
  ·have hb:(x.1 == y.1&&x.2 == y.2)=true:=by simp [K0]
   simp only[zX,simprocAttr,-Int.reduceNatCast',i64,bQ,h2,h3,h5,hb];refine⟨c1.length-(i+1),_,_,by omega,cU.refl,i+1,rfl,aH,?_,?_,?_,rfl,by rw[cy hx,cy hy,tG,K0]⟩ <;> (try simp only[zU,Nat.reduceBEq,Nat.reduceShiftRight,Nat.reduceMod,Nat.reduceEqDiff,reduceIte])
   ·exact h2
   ·exact h3
   ·rw[bM _ (by omega)];rfl
  ·have hb:(x.1 == y.1&&x.2 == y.2)=false:=by rw[aee];intro h;exact K0 (by simp at h;exact Prod.ext h.1 h.2)
   simp only[zX,simprocAttr,-Int.reduceNatCast',i64,bQ,h2,h3,h5,hb];rw[adl (λh=>by simp only[ra.mk.injEq,true_and]at h;subst h;rw[hx]at hy;simp only[adp]at hy;exact K0 hy)];all_goals first|exact⟨rfl,rfl⟩|exact⟨rfl,trivial⟩|rfl|trivial|(rw[aq];rfl)
 ·have fy:i=c1.length:=by omega
  subst fy;have X8:c1=c2:=by rw[adZ,adT (by omega)]at tG;exact tG
  simp only[zX,simprocAttr,-Int.reduceNatCast',i64,bQ,h2,h3,h5,Nat.lt_irrefl,ado];rw[adu (by rw[X8])];all_goals first|exact⟨rfl,rfl⟩|exact⟨rfl,trivial⟩|rfl|trivial|(rw[aq];rfl)
def ri:List Int:=[97,97,97,98,98,99,97,98,10,32,65,200]
def lZ (l:List Int) (ai:Int):List Int:=(List.range (min l.length ai.toNat)).map λi:Nat=>ri.getD (pick l i 12).toNat 0
theorem QM (l:List Int) (hl:∀x∈l,kg x) (ai:Int) (hm:ai<=1000000):ba prog 28 [.d (av l),i64 ai] (.d (av (lZ l ai))):=by
 refine ar func28 rfl ntmps28 results28 rfl 0 115 (by simp) (by simp) ?_;simp only[Ee,A1,Bm,simprocAttr,-Int.reduceNatCast',oY,i64];refine aJ (λm e s=>∃i:Nat,m=min l.length ai.toNat-i/\i<=min l.length ai.toNat/\e 0=.d (av l)/\e 1=i64 ai/\e 6=i64 i/\Acc [] 1 (e 5) s (((List.range i).map λi:Nat=>ri.getD (pick l i 12).toNat 0).map λx=>[iD x]))
  ⟨_,_,_,cU.refl,0,rfl,by omega,rfl,rfl,rfl,.inl ⟨rfl,rfl⟩⟩ ?_
 rintro m e s ⟨i,rfl,hi,h0,h1,h6,lr⟩;have hp:=Kv l hl i 12 (by omega);have hpr:=ct l i 12 (by omega);simp only[i64]at hp;by_cases c1:(i:Int)<l.length
 case neg =>
  have fy:i=min l.length ai.toNat:=by omega
  simp only[Ee,A1,Bm,simprocAttr,-Int.reduceNatCast',oY,i64,av,h0,h1,h6,c1,ado];rw[lr.XG (by simp)];subst fy;simp only[lZ,av]
 by_cases c2:(i:Int)<ai
 case neg =>
  have fy:i=min l.length ai.toNat:=by omega
  simp only[Ee,A1,Bm,simprocAttr,-Int.reduceNatCast',oY,i64,av,h0,h1,h6,c1,c2,ado];rw[lr.XG (by simp)];subst fy;simp only[lZ,av]
 simp only[Ee,A1,Bm,simprocAttr,-Int.reduceNatCast',oY,i64,h0,h1,h6,c1,c2];refine az hp rfl rfl ?_;have TC:pick l i 12=0\/pick l i 12=1\/pick l i 12=2\/pick l i 12=3\/pick l i 12=4\/pick l i 12=5\/pick l i 12=6\/pick l i 12=7\/pick l i 12=8\/pick l i 12=9\/pick l i 12=10\/pick l i 12=11:=by omega
 have go:∀(z:Int),ri.getD (pick l i 12).toNat 0=z->∀(v':V) (s':List VL.Obj),Acc [] 1 v' s' (((List.range i).map λi:Nat=>ri.getD (pick l i 12).toNat 0).map (λx=>[iD x])++[[iD z]])->Acc [] 1 v' s' (((List.range (i+1)).map λi:Nat=>ri.getD (pick l i 12).toNat 0).map λx=>[iD x]):=by intro z hz v' s' h;rw[List.range_succ,List.map_append,List.map_append,adG,adP,hz];exact h
 rcases TC with q|q|q|q|q|q|q|q|q|q|q|q;all_goals
  rw[q]at go ⊢;simp only[Ee,A1,Bm,simprocAttr,-Int.reduceNatCast',oY,i64,h0,h1,h6,Int.toNat_zero,Int.toNat_one];refine⟨by omega,?_⟩;refine lr.append SW rfl (by decide) (by decide) (by intro y hy;obtain⟨z,_,rfl⟩:=List.mem_map.1 hy;rfl) (by simp) (by simp) (by simp only[ado,List.length_range,adA,adF];omega) (λv' s' Fp=>?_);simp only[Ee,A1,Bm,simprocAttr,-Int.reduceNatCast',oY,i64,h0,h1,h6];refine⟨min l.length ai.toNat-(i+1),_,_,by omega,cU.refl,i+1,rfl,by omega,?_,?_,?_,?_⟩ <;> (try simp only[zU,Nat.reduceBEq,Nat.reduceShiftRight,Nat.reduceMod,Nat.reduceEqDiff,reduceIte])
  ·exact h0
  ·exact h1
  ·rw[bM _ (by omega)];rfl
  ·exact go _ rfl _ _ Fp
noncomputable def tO (p:iF) (t:List Int) (n:Nat) (fuel:Int) (i:Nat):Bool:=decide (fv p (t.take n) i (-1) fuel=0)
noncomputable def dX (p:iF) (t:List Int) (fuel:Int):Nat->iF×List Int
 |0=>(⟨.mk 0 [] [] 0 0 0 0 false,p.ah,false⟩,[])
 |n+1=>if (List.range (n+1)).all (tO p t n fuel)=true then (p,t.take n) else dX p t fuel n
theorem AB (f:Nat->Bool) (n:Nat):(List.range (n+1)).all f=((List.range n).all f&&f n):=by rw[List.range_succ,List.all_append];simp
def tw (p:iF):List VL.Obj:=[⟨0,true,10,[[i64 0,.fu [],.fu [],i64 0,i64 0,i64 0,i64 0,bV false,i64 0,bV false]]⟩,⟨0,true,10,[p.re.cells.map V.d++[i64 p.ah,bV p.aK]]⟩]
theorem QL (l m:List Int) (hl:∀x∈l,kg x) (hm:∀x∈m,kg x) (cu ai fuel:Int) (h0:0<=ai) (h1:ai<=100) :
  ba prog 11 [.d (av l),.d (av m),i64 cu,i64 ai,i64 fuel]
   (.tu [dF (dX (kA l cu ai) (lZ m 12) fuel ((lZ m 12).length+1)).1,.d (av (dX (kA l cu ai) (lZ m 12) fuel ((lZ m 12).length+1)).2)]):=by
 have Ts:=It l cu ai hl h0 (by omega);have WT:=QM m hm 12 (by omega);obtain⟨hv,gf⟩:=w9 l cu ai hl h0 h1;have OA:=CA l cu ai hl h0 h1;have EE:(kA l cu ai).re.eN=true:=Ao (by omega) _ OA.ev;have Up:(lZ m 12).length<=12:=by simp [lZ];omega
 generalize kA l cu ai=p at *;generalize lZ m 12=t at *;have dg:=λ(n i:Nat)=>LI p (t.take n) i (-1) fuel EE (by omega) (by rw[ad5];omega);generalize hR:dX p t fuel (t.length+1)=R;have Z3:=Re.ae p.re;simp only[dF,Re.ae p.re,adG,adP,adr,adt,i64,iD,bD,bV]at Ts dg;simp only[i64]at WT;refine ar func11 rfl ntmps11 results11 rfl 0 654367 (by simp) (by simp) ?_;simp only[zX,simprocAttr,-Int.reduceNatCast',i64];refine az Ts (by simp [ak,ak.go,aq,i64,bV,bP]) (by simp [ak,ak.go,aq,i64,bV,bP]) ?_;simp only[zX,simprocAttr,-Int.reduceNatCast',i64];refine az WT (by simp [ak,ak.go,aq,i64,bV,bP]) (by simp [ak,ak.go,aq,i64,bV,bP]) ?_;simp only[zX,simprocAttr,-Int.reduceNatCast',i64,av,ado];refine aJ (λN e s=>e 4=i64 fuel/\e 10=.rf 0 0 0 0/\e 12=.rf 1 0 0 0/\e 13=.d (av t)/\e 14=i64 ((N:Int)-1)/\N<=t.length+1/\dX p t fuel N=R/\s=tw p)
  ⟨t.length+1,_,_,cU.refl,rfl,rfl,rfl,rfl,?_,adB _,hR,?_⟩ ?_
 ·show i64 _=i64 _;congr 1;omega
 ·unfold tw;rw[Re.ae];rfl
 clear Ts WT hR;rintro N e s ⟨h4,eh,dZ,eB,e7,hN,hR,rfl⟩;cases N with
 |zero =>
  unfold tw;rw[Re.ae];simp only[zX,simprocAttr,-Int.reduceNatCast',i64,h4,eh,dZ,eB,e7,bD,iD,adK,Int.zero_sub];subst hR;simp only[dX,dF,Re.cells];rfl
 |succ n =>
  have e14:((n+1:Nat):Int)-1=n:=by omega
  rw[e14]at e7;have nq:(0:Int)<=n:=by omega
  unfold tw;rw[Re.ae];simp only[zX,simprocAttr,-Int.reduceNatCast',i64,h4,eh,dZ,eB,e7,bD,iD,nq,ge_iff_le];refine aJ (λM e s=>∃i:Nat,M=n+1-i/\i<=n+1/\e 4=i64 fuel/\e 10=.rf 0 0 0 0/\e 12=.rf 1 0 0 0/\e 13=.d (av t)/\e 14=i64 n/\e 15=bV ((List.range i).all (tO p t n fuel))/\e 16=i64 i/\s=tw p)
   ⟨_,_,_,cU.refl,0,rfl,by omega,?_,?_,?_,?_,?_,rfl,rfl,?_⟩ ?_ <;> (try simp only[zU,Nat.reduceBEq,Nat.reduceShiftRight,Nat.reduceMod,Nat.reduceEqDiff,reduceIte])
  ·exact h4
  ·exact eh
  ·exact dZ
  ·exact eB
  ·exact e7
  ·unfold tw;rw[Re.ae];rfl
  rintro M e s ⟨i,rfl,hi,h4,eh,dZ,eB,e7,pf,zG,rfl⟩;have bad:(List.range (n+1)).all (tO p t n fuel)=false->dX p t fuel n=R:=by intro h;rw[dX,h]at hR;exact hR
  by_cases tD:(i:Int)<=n
  ·cases hg:(List.range i).all (tO p t n fuel) with
   |false =>
    rw[hg]at pf;unfold tw;rw[Re.ae];simp only[zX,simprocAttr,-Int.reduceNatCast',i64,h4,eh,dZ,eB,e7,pf,zG,bD,iD,tD,bV];refine⟨n,_,_,by omega,cU.refl,?_,?_,?_,?_,?_,by omega,bad ?_,?_⟩ <;> (try simp only[zU,Nat.reduceBEq,Nat.reduceShiftRight,Nat.reduceMod,Nat.reduceEqDiff,reduceIte])
    ·exact h4
    ·exact eh
    ·exact dZ
    ·exact eB
    ·rw[bM _ (by omega)]
    ·rw[aee]at hg ⊢;intro h;apply hg;rw[adE]at h ⊢;exact λx hx=>h x (List.mem_range.2 (by have:=List.mem_range.1 hx;omega))
   |true =>
    rw[hg]at pf;have KC:=dg n i;have lX:n<=t.length:=by omega
    unfold tw;rw[Re.ae];simp only[zX,simprocAttr,-Int.reduceNatCast',i64,h4,eh,dZ,eB,e7,pf,zG,bD,iD,tD,bV];refine ao mix [] [] (by rfl) ?_;simp only[zX,simprocAttr,-Int.reduceNatCast',i64,h4,eh,dZ,eB,e7,pf,zG,bD,iD,av,ado,nq,lX];refine⟨by omega,?_⟩;have tG:List.take ((n:Int)-0).toNat (List.map (λx=>[D.sc (.int .i64 x)]) t)=(t.take n).map (λx=>[D.sc (.int .i64 x)]):=by rw[<- List.map_take];congr 2
    rw[tG];simp only[av,iD]at KC;refine bY KC (by simp [ak,ak.go,aq,i64,bV,bP]) (by simp [ak,ak.go,aq,i64,bV,bP]) ?_;simp only[zX,simprocAttr,-Int.reduceNatCast',i64,h4,eh,dZ,eB,e7,pf,zG,bD,iD,av,ado,nq,lX];refine⟨n+1-(i+1),_,_,by omega,cU.refl,i+1,rfl,by omega,?_,?_,?_,?_,?_,?_,?_,?_⟩ <;> (try simp only[zU,Nat.reduceBEq,Nat.reduceShiftRight,Nat.reduceMod,Nat.reduceEqDiff,reduceIte])
    ·exact h4
    ·exact eh
    ·exact dZ
    ·exact eB
    ·exact e7
    ·rw[AB,hg,Bool.true_and];rfl
    ·rw[bM _ (by omega)];rfl
  ·have fy:i=n+1:=by omega
   subst fy;cases hg:(List.range (n+1)).all (tO p t n fuel) with
   |false =>
    rw[hg]at pf;unfold tw;rw[Re.ae];simp only[zX,simprocAttr,-Int.reduceNatCast',i64,h4,eh,dZ,eB,e7,pf,zG,bD,iD,tD,bV];refine⟨n,_,_,by omega,cU.refl,?_,?_,?_,?_,?_,by omega,bad hg,?_⟩ <;> (try simp only[zU,Nat.reduceBEq,Nat.reduceShiftRight,Nat.reduceMod,Nat.reduceEqDiff,reduceIte])
    ·exact h4
    ·exact eh
    ·exact dZ
    ·exact eB
    ·rw[bM _ (by omega)]
   |true =>
    rw[hg]at pf;rw[dX,hg,ap rfl]at hR;subst hR;unfold tw;rw[Re.ae];have lX:n<=t.length:=by omega
    simp only[zX,simprocAttr,-Int.reduceNatCast',i64,h4,eh,dZ,eB,e7,pf,zG,bD,iD,tD,bV];refine ao mix [] [(0,[1],[]),(4,[0],[0])] (by rfl) ?_;simp only[zX,simprocAttr,-Int.reduceNatCast',i64,h4,eh,dZ,eB,e7,pf,zG,bD,iD,av,ado,nq,lX];refine⟨by omega,?_⟩;have tG:List.take ((n:Int)-0).toNat (List.map (λx=>[D.sc (.int .i64 x)]) t)=(t.take n).map (λx=>[D.sc (.int .i64 x)]):=by rw[<- List.map_take];congr 2
    rw[tG,dF,Re.ae];rfl
end Go.Proofs.Ytphfjhaffbfpfaa
