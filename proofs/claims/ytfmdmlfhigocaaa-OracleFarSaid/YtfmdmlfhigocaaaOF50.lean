/- A part of the proof (K7 K8 K9 K10 G54). -/
import Derived.Test.YtfmdmlfhigocaaaOF26
import Derived.Test.YtfmdmlfhigocaaaOF27
import Derived.Test.YtfmdmlfhigocaaaOF28
import Derived.Test.YtfmdmlfhigocaaaOF49
set_option linter.unusedSimpArgs false
set_option linter.unusedVariables false
set_option maxRecDepth 100000
set_option maxHeartbeats 80000000
namespace Go.Proofs.Ytfmdmlfhigocaaa
open Go.VL Go.Proofs.Try
end Go.Proofs.Ytfmdmlfhigocaaa
namespace Go.Proofs.Ytfmdmlfhigocaaa
open Go.VL Go.Proofs.Try
def Va (c:Bool) (re:Re):Bool:=decide ((re.op=0\/re.op=1\/re.op=2\/re.op=3\/re.op=4\/re.op=5\/re.op=11)/\(re.op=4->re.mode≠2/\Re.vk re.kids=false)/\(re.op=5->c=true))
structure Oh (u:Int):Prop where
 refs:eb .and .i64 u 1<=0
 conds:eb .and .i64 u 2<=0
 looks:eb .and .i64 u 4<=0
 atoms:eb .and .i64 u 8<=0
 loops:eb .and .i64 u 32=0
def LL (u:Int):Bool:=decide (0<eb .and .i64 u 64)
def TP (u S:Int) (x:Re×Mk):Prop:=x.2.bu=u/\0<=x.1.FE/\x.1.FE<=S/\x.1.every (Va (LL u))=true
theorem Cs {u S:Int} (hS:1<=S) (m:Mk) (h:m.bu=u):TP u S m.set:=by
 refine⟨h,?_,?_,?_⟩
 ·show 0<=nR 1 0 0 _ _;unfold nR;omega
 ·show nR 1 0 0 _ _<=S;unfold nR;omega
 ·exact nJ (decide_eq_true ⟨.inr (.inl rfl),fun h=>absurd (show (1:Int)=4 from h) (by decide),fun h=>absurd (show (1:Int)=5 from h) (by decide)⟩) (fun k hk=>by cases hk)
theorem Hj {u S:Int} (hS:1<=S) (m:Mk) (h:m.bu=u):TP u S (Re.node 0 [],m):=by
 refine⟨h,?_,?_,?_⟩
 ·show 0<=nR 0 0 0 _ _;simp [nR,Re.vD];decide
 ·show nR 0 0 0 _ _<=S;simp [nR,Re.vD];omega
 ·exact nJ (decide_eq_true ⟨.inl rfl,fun h=>absurd h (by decide),fun h=>absurd h (by decide)⟩) (fun k hk=>by cases hk)
theorem Hy {t:Mk->Re×Mk}{u S:Int} (ht:∀m,m.bu=u->TP u S (t m)):∀(f:Nat) (i:Int) (m:Mk),m.bu=u->(aD t f i m).2.bu=u/\0<=Re.vD (aD t f i m).1/\Re.vD (aD t f i m).1<=f*S/\(∀k∈(aD t f i m).1,k.every (Va (LL u))=true)
 |0,i,m,h=>⟨h,by simp [aD,Re.vD],by simp [aD,Re.vD],fun k hk=>by simp [aD]at hk⟩
 |f+1,i,m,h=>by
  simp only[aD]
  have h1:=ht (m.next 2).2 h
  obtain⟨a1,a2,a3,a4⟩:=Hy ht f (i+1) (t (m.next 2).2).2 h1.1
  have hS:0<=S:=Int.le_trans h1.2.1 h1.2.2.1
  split
  ·refine⟨a1,?_,?_,fun k hk=>?_⟩
   ·simp only[Re.vD];have:=h1.2.1;omega
   ·simp only[Re.vD];have:=h1.2.2.1;push_cast;rw[Int.add_mul];omega
   ·rcases List.mem_cons.1 hk with rfl|hk
    ·exact h1.2.2.2
    ·exact a4 k hk
  ·refine⟨h,by simp [Re.vD],?_,fun k hk=>by cases hk⟩
   have:0<=((f+1:Nat):Int)*S:=Int.mul_nonneg (by omega) hS
   simpa [Re.vD]using this
theorem LV {t:Mk->Re×Mk}{u S:Int}{op mn mx mode n:Int}{neg:Bool}{x:Re×Mk} (h:TP u S x) (ho:op=4\/op=5) (h0:0<=mn) (h4:op=4->mode≠2/\x.1.tT=false/\0<=mn/\mn<=2/\(mx=-1\/(1<=mx/\mx<=3/\mn<=mx))) (h5:op=5->LL u=true) :
  TP u (4*S+6) (.mk op [] [x.1] mn mx mode n neg,x.2):=by
 obtain⟨a1,a2,a3,a4⟩:=h
 have e:(Re.mk op [] [x.1] mn mx mode n neg).FE=nR op mn mx 1 (x.1.FE+0):=rfl
 rw[Int.add_zero]at e
 refine⟨a1,?_,?_,?_⟩
 ·show 0<=(Re.mk op [] [x.1] mn mx mode n neg).FE
  rw[e]
  exact C7 (by omega) a2 h0 (fun o=>by have:=h4 o;omega)
 ·show (Re.mk op [] [x.1] mn mx mode n neg).FE<=_
  rw[e]
  unfold nR
  generalize x.1.FE=z at *
  rcases ho with rfl|rfl
  ·obtain⟨b1,b2,b3,b4,b5⟩:=h4 rfl
   have h1:(mn+1)*z<=3*z:=Int.mul_le_mul_of_nonneg_right (by omega) a2
   have h2:mx=-1\/mx*z<=3*z:=by
    rcases b5 with b5|b5
    ·exact .inl b5
    ·exact .inr (Int.mul_le_mul_of_nonneg_right (by omega) a2)
   split <;> omega
  ·omega
 ·refine nJ (decide_eq_true ⟨?_,fun o=>?_,fun o=>h5 o⟩) (fun k hk=>by rw[List.mem_singleton.1 hk];exact a4)
  ·show op=0\/op=1\/op=2\/op=3\/op=4\/op=5\/op=11;omega
  ·exact⟨(h4 o).1,(h4 o).2.1⟩
theorem E4 {m:Mk} (h:eb .and .i64 m.bu 8<=0):(cU m).1≠2/\(cU m).2.bu=m.bu:=by
 have h8:m.has 8=false:=decide_eq_false (by omega)
 unfold cU
 have hx:(m.next 2).2.has 8=m.has 8:=rfl
 simp only[h8,Bool.false_eq_true,if_false]
 have:=bO m.l m.pos 2 (by omega)
 exact⟨by simp only[Mk.next];omega,rfl⟩
theorem OV {t:Mk->Re×Mk}{u S:Int} (hu:Oh u) (hS:1<=S) (ht:∀m,m.bu=u->TP u S (t m)) (m:Mk) (h:m.bu=u):TP u (4*S+6) (m.rep t):=by
 have hk:=bO m.l m.pos 12 (by omega)
 have key:∀i:Nat,i<12->0<=(ia[i]?).getD 0/\(ia[i]?).getD 0<=2/\((fq[i]?).getD 0=-1\/(1<=(fq[i]?).getD 0/\(fq[i]?).getD 0<=3/\(ia[i]?).getD 0<=(fq[i]?).getD 0)):=by decide
 have key:=key (pick m.l m.pos 12).toNat (by omega)
 have hm:=E4 (m:=(m.next 12).2) (by show eb .and .i64 m.bu 8<=0;rw[h];exact hu.atoms)
 have Bx:TP u S (fD t (cU (m.next 12).2).2)/\(fD t (cU (m.next 12).2).2).1.tT=false:=by
  have h1:=ht (cU (m.next 12).2).2 (hm.2.trans h)
  unfold fD
  simp only
  rw[h1.1,hu.loops]
  by_cases hn:(t (cU (m.next 12).2).2).1.tT=true
  ·rw[if_pos ⟨rfl,hn⟩]
   exact⟨Cs hS _ h1.1,rfl⟩
  ·rw[if_neg (fun h=>hn h.2)]
   exact⟨h1,by simpa using hn⟩
 exact LV (t:=t) Bx.1 (.inl rfl) key.1 (fun _=>⟨hm.1,Bx.2,key.1,key.2.1,key.2.2⟩) (fun o=>absurd o (by decide))
theorem Ni {t:Mk->Re×Mk}{u S:Int} (hu:Oh u) (hS:1<=S) (ht:∀m,m.bu=u->TP u S (t m)) (k:Int) (m:Mk) (h:m.bu=u):TP u (4*S+6) (Mk.node t k m):=by
 obtain⟨k1,k2,k3,k4⟩:=Hy ht 4 0 m h
 have k5:=(uB (t:=fun m=>(Re.node 0 [],m)) (fun m=>Nf (by omega) (by omega) (by decide)) 4 0 m).2
 have Xs:((aD t 4 0 m).1.length:Int)<=4:=by
  have:∀(f:Nat) (i:Int) (m:Mk),(aD t f i m).1.length<=f:=by
   intro f
   induction f with
   |zero=>intro i m;simp [aD]
   |succ f ih =>
    intro i m
    simp only[aD]
    split
    ·simp;exact ih _ _
    ·simp
  have:=this 4 0 m
  omega
 have YL:1<=((aD t 4 0 m).1.length:Int):=by
  have:=EN (t:=t) m
  have:=List.length_pos_iff.2 this
  omega
 have kids:∀op:Int,(op=2\/op=3)->TP u (4*S+6) (Re.node op (aD t 4 0 m).1,(aD t 4 0 m).2):=fun op ho=>by
  have e:(Re.node op (aD t 4 0 m).1).FE=nR op 0 0 (aD t 4 0 m).1.length (Re.vD (aD t 4 0 m).1):=rfl
  refine⟨k1,?_,?_,?_⟩
  ·show 0<=(Re.node op (aD t 4 0 m).1).FE
   rw[e];unfold nR;omega
  ·show (Re.node op (aD t 4 0 m).1).FE<=_
   rw[e];unfold nR
   have:((4:Nat):Int)*S=4*S:=rfl
   omega
  ·refine nJ (decide_eq_true ⟨?_,fun o=>?_,fun o=>?_⟩) k4
   ·show op=0\/op=1\/op=2\/op=3\/op=4\/op=5\/op=11;omega
   ·have o:op=4:=o;omega
   ·have o:op=5:=o;omega
 have Yh:∀x,TP u S x->TP u (4*S+6) x:=fun x hx=>⟨hx.1,hx.2.1,by have:=hx.2.2.1;omega,hx.2.2.2⟩
 have has:∀b,m.has b=true->¬eb .and .i64 u b<=0:=fun b hb=>by
  have:=of_decide_eq_true hb
  rw[h]at this;omega
 have cap:m.has 64=true->TP u (4*S+6) (m.fp t):=fun hc=>by
  have XP:LL u=true:=by
   have:=of_decide_eq_true hc
   rw[h]at this
   exact decide_eq_true this
  have Ye:(cJ m).2.bu=u:=by
   unfold cJ
   simp only
   split
   ·exact h
   ·split
    ·split <;> exact h
    ·exact h
  exact LV (t:=t) (ht _ Ye) (.inr rfl) (Int.le_refl _) (fun o=>absurd o (by decide)) (fun _=>XP)
 unfold Mk.node
 split
 ·exact kids 2 (.inl rfl)
 split
 ·exact kids 3 (.inr rfl)
 split
 ·exact OV hu hS ht m h
 split
 ·rename_i hc;exact cap hc.2
 split
 ·rename_i hc;exact cap hc.2
 split
 ·refine⟨h,?_,?_,?_⟩
  ·show 0<=nR 11 0 0 _ _;unfold nR;omega
  ·show nR 11 0 0 _ _<=_;unfold nR;omega
  ·exact nJ (decide_eq_true ⟨by simp [Re.op],fun h=>absurd (show (11:Int)=4 from h) (by decide),fun h=>absurd (show (11:Int)=5 from h) (by decide)⟩) (fun k hk=>by cases hk)
 split
 ·rename_i hc;exact absurd hu.looks (has 4 hc.2)
 split
 ·rename_i hc;exact absurd hu.atoms (has 8 hc.2)
 split
 ·rename_i hc;exact absurd hu.refs (has 1 hc.2.1)
 split
 ·rename_i hc;exact absurd hu.conds (has 2 hc.2.1)
 ·exact Yh _ (Cs hS m h)
def sD:Nat->Int
 |0=>1
 |d+1=>4*sD d+6
theorem v9:∀d,1<=sD d
 |0=>by simp [sD]
 |d+1=>by have:=v9 d;simp only[sD];omega
theorem Hz {u:Int} (hu:Oh u):∀(d:Nat) (m:Mk),m.bu=u->TP u (sD d) (Mk.tree d m)
 |0,m,h=>by
  simp only[Mk.tree]
  split
  ·exact Hj (v9 0) _ h
  ·exact Cs (v9 0) _ h
 |d+1,m,h=>by
  simp only[Mk.tree]
  split
  ·split
   ·exact Hj (v9 _) _ h
   ·exact Cs (v9 _) _ h
  ·exact Ni hu (v9 d) (fun m=>Hz hu d m) _ _ h
theorem Pd (l:List Int) (u most:Int) (hu:Oh u):0<=(jf l u most).re.FE/\(jf l u most).re.FE<=4000/\(jf l u most).re.every (Va (LL u))=true:=by
 obtain⟨_,h1,h2,h3⟩:=Hz hu 5 ⟨l,0,u,most,0⟩ rfl
 exact⟨h1,Int.le_trans h2 (by decide),h3⟩
def FA (F F':Int) (st st':bq) (b:Bool) (o:Option (Bool×bq)):Prop :=
 st.steps<=st'.steps/\(st'.empty=true->b=true/\F<st'.steps)/\(st.steps<=F'->(st'.steps<=F'->o=some (b,st'))/\(F'<st'.steps->∃s2,o=some (true,s2)/\s2.empty=true))
end Go.Proofs.Ytfmdmlfhigocaaa
