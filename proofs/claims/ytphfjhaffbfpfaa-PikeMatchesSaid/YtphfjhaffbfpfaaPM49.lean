/- A part of the proof (G56 G57 G58 G59 G60 G61). -/
import Derived.Test.YtphfjhaffbfpfaaPM38
import Derived.Test.YtphfjhaffbfpfaaPM48
import Derived.Test.YtphfjhaffbfpfaaPM34
set_option linter.all false
set_option maxRecDepth 100000
set_option maxHeartbeats 80000000
namespace Go.Proofs.Ytphfjhaffbfpfaa
open Go.VL Go.Proofs.Try
theorem Rc {p:iF}{t:List Int}{f:Int} (h:dW p t f=0):∀x∈t,kg x:=by intro x hx;have:=List.all_eq_true.1 (im h).2.2.1 x hx;unfold n5 at this;have hr:=kU p.aK;simp only[adD,adC]at this;unfold kg;omega
end Go.Proofs.Ytphfjhaffbfpfaa
namespace Go.Proofs.Ytphfjhaffbfpfaa
open Go.VL Go.Proofs.Try
theorem vy:(true == true)=true/\(false == false)=true/\(true == false)=false/\(false == true)=false:=⟨rfl,rfl,rfl,rfl⟩
mutual
theorem yS {ρ:List Nat}{k n:Nat} (h:∀i,i<k->ρ.getD i 0<n):∀v:V,ak k v=true->ak n (aX ρ v)=true
 |.so _ _ _ _,hv=>by simp only[ak,aX,adC]at *;exact h _ hv
 |.rf _ _ _ _,hv=>by simp only[ak,aX,adC]at *;exact h _ hv
 |.pp _ _ _ _ _ _,hv=>by simp only[ak,aX,adC]at *;exact h _ hv
 |.mp _ _,hv=>by simp only[ak,aX,adC]at *;exact h _ hv
 |.ag cs,hv=>by simp only[ak,aX]at *;exact oT h cs hv
 |.tu cs,hv=>by simp only[ak,aX]at *;exact oT h cs hv
 |.bx v,hv=>by simp only[ak,aX]at *;exact yS h v hv
 |.cl _ first ah,hv=>by simp only[ak,aX,adD]at *;exact⟨oT h first hv.1,oT h ah hv.2⟩
 |.d _,_=>rfl
 |.fu _,_=>rfl
 |.un,_=>rfl
 |.any,hv=>hv
theorem oT {ρ:List Nat}{k n:Nat} (h:∀i,i<k->ρ.getD i 0<n):∀l:List V,ak.go k l=true->ak.go n (aX.go ρ l)=true
 |[],_=>rfl
 |v::vs,hv=>by simp only[ak.go,aX.go,adD]at *;exact⟨yS h v hv.1,oT h vs hv.2⟩
end
theorem Zc {X Y Z n:Nat} (hX:X<n) (hY:Y<n) (hZ:Z<n) {T:V} (h:ak 3 T=true):ak n (aX [X,Y,Z] T)=true:=by
 refine yS (k:=3) (λi hi=>?_) T h
 match i,hi with
 |0,_=>exact hX
 |1,_=>exact hY
 |2,_=>exact hZ
theorem Wo {Y Z n:Nat}{m:aA}{T:V} (b a:Nat) (hY:Y<n) (hZ:Z<n) (hT:ak n T=true):bJ n (MN Y Z m T)=true/\bJ n (Od b a m)=true/\bJ n (PS m)=true:=by
 refine⟨?_,?_,oy m.own iD n⟩
 ·unfold MN bJ;simp only[List.all_cons,List.all_nil,Bool.and_true,hT,i64,bV,iD,bD];simp [ak];exact⟨hZ,hY⟩
 ·exact vK m.gj b a n
def zY:=ac @i64.eq_1 @bV.eq_1 @iD.eq_1 @bD.eq_1 @ra.v.eq_1 @av.eq_1 @bg.eq_1<|ac @bg.eq_2 @List.length_map.{0,0} @List.set_cons_zero.{0} @List.set_cons_succ.{0} @List.length_cons.{0} @List.length_nil.{0} @List.cons_append.{0}<|ac @List.nil_append.{0} @ne_eq.{1} @not_true_eq_false @not_false_eq_true @Bool.not_false @Bool.not_true @gt_iff_lt.{0} @decide_true
structure Zw (p:iF) (m:aA):Prop where
 p:m.p=p
 top:m.top<=m.gj.length
theorem Tx (m:aA):ak 3 m.kB=true/\aX [0,1,2] m.kB=m.kB:=by unfold aA.kB;split <;> exact⟨rfl,rfl⟩
end Go.Proofs.Ytphfjhaffbfpfaa
namespace Go.Proofs.Ytphfjhaffbfpfaa
open Go.VL Go.Proofs.Try
theorem LL {p:iF} (hv:dR p=0) (t:List Int) (i f:Int):(iS p.aK t i f=0/\dW p t f=0/\0<=i/\i<=t.length)\/(iS p.aK t i f≠0/\∀ai,fv p t i ai f=iS p.aK t i f):=by
 unfold iS fv dW;rw[am (show ¬dR p≠0 by rw[hv];simp)];by_cases c1:65536<t.length
 ·rw[ap c1,ap c1];exact .inr ⟨by decide,λai=>by rw[ap (by decide)]⟩
 rw[am c1,am c1];by_cases c2:t.all (n5 p.aK)=false
 ·rw[ap c2,ap c2];exact .inr ⟨by decide,λai=>by rw[ap (by decide)]⟩
 rw[am c2,am c2];by_cases c3:f<0\/1099511627776<f
 ·rw[ap c3,ap c3];exact .inr ⟨by decide,λai=>by rw[ap (by decide)]⟩
 rw[am c3,am c3];by_cases c4:i<0\/(t.length:Int)<i
 ·rw[ap c4];exact .inr ⟨by decide,λai=>by rw[am (by decide),ap c4]⟩
 ·rw[am c4];exact .inl ⟨rfl,rfl,by omega,by omega⟩
theorem Qk {p:iF} (hv:dR p=0) {t:List Int} (ht:t.length<=1000000) (hI:∀x∈t,kg x) (i f:Int) {m:aA} (hm:Zw p m) (T:V) (hT:ak 3 T=true) (Lk:aX [0,1,2] T=T) :
  ∃(m':aA) (T':V),Zw p m'/\ak 3 T'=true/\aX [0,1,2] T'=T'/\m'.ready=(decide (fv p t i 1 f=0)&&!(allM p t i 1 f).isEmpty)/\m.cN<=m'.cN/\m'.cN<=max m.cN (max 0 f)/\(fv p t i 1 f=0->m'.cN<=max m.cN (jy p t i 1 f)) /\
   ∀b a:Nat,au prog 8 [.pp 0 0 0 0 b a,.d (av t),i64 i,i64 f] (m.ay 0 b a T) λv s=>v=Ib (Er p t i f)/\s=m'.ay 0 b a T':=by
 rcases LL hv t i f with ⟨s7,Th,h0,h1⟩|⟨s7,hE⟩
 ·obtain⟨v1,v2,v3,v4,v5⟩:=im Th;obtain⟨k1,k2,k3,k4,k5⟩:=eL v1;obtain⟨k,m2,r,found,j1,j2,j3,j4,j5,j6⟩:=QN Th h0 h1 hm.p;have hk:=Tx (m2.done found);have V9:m2.fuel=f:=j2.fr.fuel;have LF:m2.steps<=f:=by have:=j2.ck (by show (0:Int)<=f;omega);rw[V9]at this;exact this
  have hd:(m2.done found).kept.cN=m2.cN:=by unfold aA.kept;split <;> rfl
  have eR:m.cN<=m2.cN:=j2.RU;have uf:m2.cN<=max m.cN m2.steps:=j2.SB;refine⟨(m2.done found).kept,(m2.done found).kB,⟨?_,Nk (m:=m2.done found) j3⟩,hk.1,hk.2,?_,by rw[hd];exact eR,by rw[hd];omega,λhE=>?_,λb a=>?_⟩
  ·have h1:m2.p=p:=by rw[j2.fr.p];exact hm.p
   unfold aA.kept;split <;> exact h1
  ·rw[<- j6];unfold aA.kept;split <;> rfl
  ·rw[hd];have aU:m2.steps=jy p t i 1 f:=by
    unfold aA.res Er at j5;rw[am (show ¬fv p t i 1 f≠0 from by rw[hE];simp)]at j5;cases hM:allM p t i 1 f with
    |nil =>
     rw[hM]at j5;simp only at j5;split at j5
     ·simp [i64]at j5
     ·split at j5
      ·simp [bV]at j5
      ·simp [i64]at j5;omega
    |cons e l =>
     rw[hM]at j5;obtain⟨e1,e2⟩:=e;simp only at j5;split at j5
     ·simp [i64]at j5
     ·split at j5
      ·simp [i64]at j5;omega
      ·simp [bV]at j5
   rw[aU]at uf;exact uf
  ·have s7:iS m.p.aK t i f=0:=by rw[hm.p];exact s7
   have:=Rq 0 b a m T hT Lk hm.top t i f ht hI s7 p.ah.toNat (by rw[hm.p];omega) (by omega) j1 j4;rw[j5]at this;exact this
 ·refine⟨m.rest,T,⟨hm.p,Nat.zero_le _⟩,hT,Lk,?_,ady _,by show m.cN<=_;omega,λh=>?_,λb a=>?_⟩
  ·rw[hE 1,adl s7];rfl
  ·rw[hE 1]at h;exact absurd h s7
  ·have IT:iS m.p.aK t i f≠0:=by rw[hm.p];exact s7
   have:=PC 0 b a m T hT Lk hm.top t i f (by omega) hI IT;have NX:Er p t i f=[i64 0,i64 0,.d (.sl []),bV false,i64 0,i64 (iS m.p.aK t i f)]:=by unfold Er;rw[hE 1,ap s7,hm.p]
   rw[NX];exact this
end Go.Proofs.Ytphfjhaffbfpfaa
