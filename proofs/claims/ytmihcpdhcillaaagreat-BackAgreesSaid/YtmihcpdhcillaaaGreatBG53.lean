/- A part of the proof (G58 G59 G60 G61). -/
import Derived.Test.YtmihcpdhcillaaaGreatBG39
import Derived.Test.YtmihcpdhcillaaaGreatBG48
import Derived.Test.YtmihcpdhcillaaaGreatBG50
set_option linter.unusedSimpArgs false
set_option linter.unusedVariables false
set_option maxRecDepth 100000
set_option maxHeartbeats 80000000
namespace Go.Proofs.YtmihcpdhcillaaaGreat
open Go.VL Go.Proofs.Tryz
theorem oV:(true == true)=true∧(false == false)=true∧(true == false)=false∧(false == true)=false:=⟨rfl,rfl,rfl,rfl⟩
mutual
theorem x0 {ρ:List Nat}{k n:Nat} (h:∀i,i<k→ρ.getD i 0<n):∀v:V,ao k v=true→ao n (bF ρ v)=true
 |.so _ _ _ _,hv=>by simp only[ao,bF,decide_eq_true_eq]at *;exact h _ hv
 |.rf _ _ _ _,hv=>by simp only[ao,bF,decide_eq_true_eq]at *;exact h _ hv
 |.pp _ _ _ _ _ _,hv=>by simp only[ao,bF,decide_eq_true_eq]at *;exact h _ hv
 |.mp _ _,hv=>by simp only[ao,bF,decide_eq_true_eq]at *;exact h _ hv
 |.ag cs,hv=>by simp only[ao,bF]at *;exact nT h cs hv
 |.tu cs,hv=>by simp only[ao,bF]at *;exact nT h cs hv
 |.bx v,hv=>by simp only[ao,bF]at *;exact x0 h v hv
 |.cl _ first ak,hv=>by simp only[ao,bF,W7]at *;exact⟨nT h first hv.1,nT h ak hv.2⟩
 |.d _,_=>rfl
 |.fu _,_=>rfl
 |.un,_=>rfl
 |.any,hv=>hv
theorem nT {ρ:List Nat}{k n:Nat} (h:∀i,i<k→ρ.getD i 0<n):∀l:List V,ao.go k l=true→ao.go n (bF.go ρ l)=true
 |[],_=>rfl
 |v::vs,hv=>by simp only[ao.go,bF.go,W7]at *;exact⟨x0 h v hv.1,nT h vs hv.2⟩
end
theorem SQ {X Y Z n:Nat} (hX:X<n) (hY:Y<n) (hZ:Z<n) {T:V} (h:ao 3 T=true):ao n (bF [X,Y,Z] T)=true:=by
 refine x0 (k:=3) (fun i hi=>?_) T h
 match i,hi with
 |0,_=>exact hX
 |1,_=>exact hY
 |2,_=>exact hZ
theorem QK {Y Z n:Nat}{m:aC}{T:V} (b a:Nat) (hY:Y<n) (hZ:Z<n) (hT:ao n T=true):cU n (IN Y Z m T)=true∧cU n (IV b a m)=true∧cU n (K8 m)=true:=by
 refine⟨?_,?_,nD m.own iD n⟩
 ·unfold IN cU
  simp only[List.all_cons,List.all_nil,XT,hT,i64,bV,iD,bD]
  simp [ao]
  exact⟨hZ,hY⟩
 ·exact ta m.cO b a n
theorem zY:type_of% (And.intro @i64.eq_1<|And.intro @bV.eq_1<|And.intro @iD.eq_1<|And.intro @bD.eq_1<|And.intro @FV.v.eq_1<|And.intro @aB.eq_1<|And.intro @aM.eq_1<|And.intro @aM.eq_2<|And.intro @List.length_map.{0,0}<|And.intro @List.set_cons_zero.{0}<|And.intro @List.set_cons_succ.{0}<|And.intro @List.length_cons.{0}<|And.intro @List.length_nil.{0}<|And.intro @List.cons_append.{0}<|And.intro @List.nil_append.{0}<|And.intro @ne_eq.{1}<|And.intro @not_true_eq_false<|And.intro @not_false_eq_true<|And.intro @Bool.not_false<|And.intro @Bool.not_true<|And.intro @gt_iff_lt.{0} @decide_true):=(And.intro @i64.eq_1<|And.intro @bV.eq_1<|And.intro @iD.eq_1<|And.intro @bD.eq_1<|And.intro @FV.v.eq_1<|And.intro @aB.eq_1<|And.intro @aM.eq_1<|And.intro @aM.eq_2<|And.intro @List.length_map.{0,0}<|And.intro @List.set_cons_zero.{0}<|And.intro @List.set_cons_succ.{0}<|And.intro @List.length_cons.{0}<|And.intro @List.length_nil.{0}<|And.intro @List.cons_append.{0}<|And.intro @List.nil_append.{0}<|And.intro @ne_eq.{1}<|And.intro @not_true_eq_false<|And.intro @not_false_eq_true<|And.intro @Bool.not_false<|And.intro @Bool.not_true<|And.intro @gt_iff_lt.{0} @decide_true)
structure TJ (p:fj) (m:aC):Prop where
 p:m.p=p
 top:m.top≤m.cO.length
theorem OP (m:aC):ao 3 m.jg=true∧bF [0,1,2] m.jg=m.jg:=by
 unfold aC.jg;split <;> exact⟨rfl,rfl⟩
end Go.Proofs.YtmihcpdhcillaaaGreat
namespace Go.Proofs.YtmihcpdhcillaaaGreat
open Go.VL Go.Proofs.Tryz
theorem Ht {p:fj} (hv:df p=0) (t:List Int) (i f:Int):(gM p.bk t i f=0∧cc p t f=0∧0≤i∧i≤t.length)∨(gM p.bk t i f≠0∧∀ah,cV p t i ah f=gM p.bk t i f):=by
 unfold gM cV cc
 rw[if_neg (show ¬df p≠0 by rw[hv];simp)]
 by_cases c1:65536<t.length
 ·rw[if_pos c1,if_pos c1]
  exact .inr ⟨by decide,fun ah=>by rw[if_pos (by decide)]⟩
 rw[if_neg c1,if_neg c1]
 by_cases c2:t.all (kr p.bk)=false
 ·rw[if_pos c2,if_pos c2]
  exact .inr ⟨by decide,fun ah=>by rw[if_pos (by decide)]⟩
 rw[if_neg c2,if_neg c2]
 by_cases c3:f<0∨1099511627776<f
 ·rw[if_pos c3,if_pos c3]
  exact .inr ⟨by decide,fun ah=>by rw[if_pos (by decide)]⟩
 rw[if_neg c3,if_neg c3]
 by_cases c4:i<0∨(t.length:Int)<i
 ·rw[if_pos c4]
  exact .inr ⟨by decide,fun ah=>by rw[if_neg (by decide),if_pos c4]⟩
 ·rw[if_neg c4]
  exact .inl ⟨rfl,rfl,by omega,by omega⟩
theorem Mw {p:fj} (hv:df p=0) {t:List Int} (ht:t.length≤1000000) (hI:∀x∈t,jX x) (i f:Int) {m:aC} (hm:TJ p m) (T:V) (hT:ao 3 T=true) (G7:bF [0,1,2] T=T) :
  ∃(m':aC) (T':V),TJ p m'∧ao 3 T'=true∧bF [0,1,2] T'=T'∧m'.ready=(decide (cV p t i 1 f=0)&&!(allM p t i 1 f).isEmpty)∧m.cr≤m'.cr∧m'.cr≤max m.cr (max 0 f)∧(cV p t i 1 f=0→m'.cr≤max m.cr (dT p t i 1 f)) ∧
   ∀b a:Nat,av prog 7 [.pp 0 0 0 0 b a,.d (aB t),i64 i,i64 f] (m.az 0 b a T) fun v s=>v=AP (C5 p t i f)∧s=m'.az 0 b a T':=by
 rcases Ht hv t i f with ⟨qu,Ph,h0,h1⟩|⟨qu,hE⟩
 ·obtain⟨v1,v2,v3,v4,v5⟩:=du Ph
  obtain⟨k1,k2,k3,k4,k5⟩:=eC v1
  obtain⟨k,m2,r,found,j1,j2,j3,j4,j5,j6⟩:=Mc Ph h0 h1 hm.p
  have hk:=OP (m2.done found)
  have SB:m2.fuel=f:=j2.fr.fuel
  have MP:m2.steps≤f:=by have:=j2.cE (by show (0:Int)≤f;omega);rw[SB]at this;exact this
  have hd:(m2.done found).kept.cr=m2.cr:=by unfold aC.kept;split <;> rfl
  have eM:m.cr≤m2.cr:=j2.M6
  have rI:m2.cr≤max m.cr m2.steps:=j2.NI
  refine⟨(m2.done found).kept,(m2.done found).jg,⟨?_,JM (m:=m2.done found) j3⟩,hk.1,hk.2,?_,by rw[hd];exact eM,by rw[hd];omega,fun hE=>?_,fun b a=>?_⟩
  ·have h1:m2.p=p:=by rw[j2.fr.p];exact hm.p
   unfold aC.kept
   split <;> exact h1
  ·rw[← j6]
   unfold aC.kept
   split <;> rfl
  ·rw[hd]
   have aW:m2.steps=dT p t i 1 f:=by
    unfold aC.res C5 at j5
    rw[if_neg (show ¬cV p t i 1 f≠0 from by rw[hE];simp)]at j5
    cases hM:allM p t i 1 f with
    |nil =>
     rw[hM]at j5
     simp only at j5
     split at j5
     ·simp [i64]at j5
     ·split at j5
      ·simp [bV]at j5
      ·simp [i64]at j5;omega
    |cons e l =>
     rw[hM]at j5
     obtain⟨e1,e2⟩:=e
     simp only at j5
     split at j5
     ·simp [i64]at j5
     ·split at j5
      ·simp [i64]at j5;omega
      ·simp [bV]at j5
   rw[aW]at rI
   exact rI
  ·have qu:gM m.p.bk t i f=0:=by rw[hm.p];exact qu
   have:=GI 0 b a m T hT G7 hm.top t i f ht hI qu p.ak.toNat (by rw[hm.p];omega) (by omega) j1 j4
   rw[j5]at this
   exact this
 ·refine⟨m.rest,T,⟨hm.p,Nat.zero_le _⟩,hT,G7,?_,WW _,by show m.cr≤_;omega,fun h=>?_,fun b a=>?_⟩
  ·rw[hE 1,decide_eq_false qu];rfl
  ·rw[hE 1]at h;exact absurd h qu
  ·have TW:gM m.p.bk t i f≠0:=by rw[hm.p];exact qu
   have:=JQ 0 b a m T hT G7 hm.top t i f (by omega) hI TW
   have FT:C5 p t i f=[i64 0,i64 0,.d (.sl []),bV false,i64 0,i64 (gM m.p.bk t i f)]:=by
    unfold C5
    rw[hE 1,if_pos qu,hm.p]
   rw[FT]
   exact this
end Go.Proofs.YtmihcpdhcillaaaGreat
