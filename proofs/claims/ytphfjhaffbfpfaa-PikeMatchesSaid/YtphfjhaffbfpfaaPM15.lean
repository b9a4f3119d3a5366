/- A part of the proof (F51 F52 F61 F62). -/
import Derived.Test.YtphfjhaffbfpfaaPM2
import Derived.Test.YtphfjhaffbfpfaaPM6
set_option linter.all false
set_option maxRecDepth 100000
set_option maxHeartbeats 80000000
namespace Go.Proofs.Ytphfjhaffbfpfaa
open Go.VL Go.Proofs.Try
end Go.Proofs.Ytphfjhaffbfpfaa
namespace Go.Proofs.Ytphfjhaffbfpfaa
open Go.VL Go.Proofs.Try
theorem xj (a b:List Int) (ha:a.length<=1000000000):ba prog 26 [.d (av a),.d (av b)] (bV (decide (a=b))):=by
 refine ar func26 rfl ntmps26 results26 rfl 0 51 (by simp) (by simp) ?_;by_cases hl:(a.length:Int)=b.length
 rotate_left
 ·simp only[zX,simprocAttr,av,hl];rw[adl (λh=>hl (by rw[h]))];rfl
 simp only[zX,simprocAttr,av,hl];refine aJ (λn e s=>∃i:Nat,n=a.length-i/\i<=a.length/\e 0=.d (av a)/\e 1=.d (av b)/\e 5=i64 i/\s=[]/\a.take i=b.take i)
  ⟨_,_,_,cU.refl,0,rfl,by omega,rfl,rfl,rfl,rfl,rfl⟩ ?_
 rintro n e s ⟨i,rfl,hi,h0,h1,h5,rfl,tG⟩;rcases adV i a.length with aH|iP
 ·have za:i<b.length:=by omega
  obtain⟨x,hx⟩:∃x,a[i]?=some x:=⟨_,adn aH⟩
  obtain⟨y,hy⟩:∃y,b[i]?=some y:=⟨_,adn za⟩
  by_cases K0:x=y
  ·simp only[zX,simprocAttr,i64,av,h0,h1,h5,aH,za,hl];refine ao mix [] [] (by rfl) ?_;simp only[zX,simprocAttr,i64,av,h0,h1,h5,aH,za,hx,hy,iD,K0];refine⟨a.length-(i+1),_,_,by omega,cU.refl,i+1,rfl,aH,?_,?_,?_,rfl,by rw[cy hx,cy hy,tG,K0]⟩ <;> (try simp only[zU,Nat.reduceBEq,Nat.reduceShiftRight,Nat.reduceMod,Nat.reduceEqDiff,reduceIte])
   ·exact h0
   ·exact h1
   ·rw[bM _ (by omega)];rfl
  ·simp only[zX,simprocAttr,i64,av,h0,h1,h5,aH,za,hl];refine ao mix [] [] (by rfl) ?_;simp only[zX,simprocAttr,i64,av,h0,h1,h5,aH,za,hx,hy,iD,K0];rw[adl (λh=>by subst h;rw[hx]at hy;simp only[adp]at hy;exact K0 hy)];all_goals first|exact⟨rfl,rfl⟩|exact⟨rfl,trivial⟩|rfl|trivial|(rw[aq];rfl)
 ·have fy:i=a.length:=by omega
  subst fy;have X8:a=b:=by rw[adZ,adT (by omega)]at tG;exact tG
  simp only[zX,simprocAttr,i64,av,h0,h1,h5,Nat.lt_irrefl];rw[adu X8];all_goals first|exact⟨rfl,rfl⟩|exact⟨rfl,trivial⟩|rfl|trivial|(rw[aq];rfl)
theorem Uk (l:List Int) (x:Int) (hl:l.length<=1000000000):ba prog 31 [.d (av l),i64 x] (bV (decide (x∈l))):=by
 refine ar func31 rfl ntmps31 results31 rfl 0 51 (by simp) (by simp) ?_;simp only[zX,simprocAttr,i64];refine aJ (λn e s=>∃i:Nat,n=l.length-i/\i<=l.length/\e 0=.d (av l)/\e 1=i64 x/\e 5=i64 i/\s=[]/\x ∉ l.take i)
  ⟨_,_,_,cU.refl,0,rfl,by omega,rfl,rfl,rfl,rfl,by simp⟩ ?_
 rintro n e s ⟨i,rfl,hi,h0,h1,h5,rfl,ov⟩;rcases adV i l.length with aH|iP
 ·obtain⟨y,hy⟩:∃y,l[i]?=some y:=⟨_,adn aH⟩
  by_cases K0:y=x
  ·simp only[zX,simprocAttr,i64,av,iD,h0,h1,h5,aH,hy,K0];rw[adu (by rw[<- K0];exact adw hy)];all_goals first|exact⟨rfl,rfl⟩|exact⟨rfl,trivial⟩|rfl|trivial|(rw[aq];rfl)
  ·simp only[zX,simprocAttr,i64,av,iD,h0,h1,h5,aH,hy,K0];refine⟨l.length-(i+1),_,_,by omega,cU.refl,i+1,rfl,aH,?_,?_,?_,rfl,by rw[cy hy];simp [ov,Ne.symm K0]⟩ <;> (try simp only[zU,Nat.reduceBEq,Nat.reduceShiftRight,Nat.reduceMod,Nat.reduceEqDiff,reduceIte])
   ·exact h0
   ·exact h1
   ·rw[bM _ (by omega)];rfl
 ·have fy:i=l.length:=by omega
  subst fy;rw[adZ]at ov;simp only[zX,simprocAttr,i64,av,iD,h0,h1,h5,Nat.lt_irrefl];rw[adl ov];all_goals first|exact⟨rfl,rfl⟩|exact⟨rfl,trivial⟩|rfl|trivial|(rw[aq];rfl)
end Go.Proofs.Ytphfjhaffbfpfaa
