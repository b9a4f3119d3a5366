/- A part of the proof (K22 K23 K14 K14B K14C K14D K14E K24 K25 K39 K83 O46). -/
import Derived.Test.YtfmdmlfhigocaaaOF28
import Derived.Test.YtfmdmlfhigocaaaOF49
import Derived.Test.YtfmdmlfhigocaaaOF52
set_option linter.unusedSimpArgs false
set_option linter.unusedVariables false
set_option maxRecDepth 100000
set_option maxHeartbeats 80000000
namespace Go.Proofs.Ytfmdmlfhigocaaa
open Go.VL Go.Proofs.Try
structure Ud.ok (g:TA) (x:Ud):Prop where
 p0:0<=x.pc
 p1:x.pc<g.ins.length
 dn:x.dn.length=(2*g.ai).toNat
 op:(On g x.pc).op=0\/(On g x.pc).op=1
end Go.Proofs.Ytfmdmlfhigocaaa
namespace Go.Proofs.Ytfmdmlfhigocaaa
open Go.VL Go.Proofs.Try
def YJ (aU:Bool) (l:List (Int×Int)):Bool:=aU||(match l[l.length-1]? with|none=>true|some s=>decide (s.2<=255))
def NO (x:Jq):Bool:=decide ((x.op≠1->x.set.length=0)/\(x.op≠2->x.y=0)/\(x.op≠2->x.op≠3->x.x=0)/\(x.op≠4->x.op≠5->x.n=0))
end Go.Proofs.Ytfmdmlfhigocaaa
namespace Go.Proofs.Ytfmdmlfhigocaaa
open Go.VL Go.Proofs.Try
end Go.Proofs.Ytfmdmlfhigocaaa
namespace Go.Proofs.Ytfmdmlfhigocaaa
open Go.VL Go.Proofs.Try
end Go.Proofs.Ytfmdmlfhigocaaa
namespace Go.Proofs.Ytfmdmlfhigocaaa
open Go.VL Go.Proofs.Try
structure WG (lo hi ai:Int) (aU:Bool) (x:Jq):Prop where
 un:NO x=true
 op:x.op=0\/(x.op=1/\Up x.set=0/\YJ aU x.set=true)\/(x.op=2/\lo<=x.x/\x.x<=hi/\lo<=x.y/\x.y<=hi)\/(x.op=3/\lo<=x.x/\x.x<=hi)\/(x.op=4/\0<=x.n/\x.n<2*ai)\/(x.op=5/\0<=x.n/\x.n<=5)
def Mq (re:Re):Bool:=decide (re.op≠11)
theorem Hn {m:Mk}{u k:Int} (h:m.bu=u) (hb:(eb .and .i64 u k)<=0):m.has k=false:=by
 unfold Mk.has
 rw[h]
 exact decide_eq_false (by omega)
def KA (u:Int) (t:Mk->Re×Mk):Prop:=∀m:Mk,m.bu=u->(t m).1.every Mq=true/\(t m).2.bu=u
theorem jv {op mn mx mode n:Int}{set:List (Int×Int)}{kids:List Re}{neg:Bool} (kt:op≠11) (hk:∀k∈kids,k.every Mq=true):(Re.mk op set kids mn mx mode n neg).every Mq=true :=
 (Re.aS _).2 ⟨decide_eq_true kt,hk⟩
theorem GB {k:Re} (h:k.every Mq=true):∀x∈[k],x.every Mq=true:=fun x hx=>by rw[List.mem_singleton.1 hx];exact h
theorem Bt (m:Mk):m.set.1.every Mq=true:=jv (by decide) (fun k hk=>by cases hk)
theorem w7 {u:Int}{t:Mk->Re×Mk} (ht:KA u t):∀(f:Nat) (i:Int) (m:Mk),m.bu=u->(∀k∈(aD t f i m).1,k.every Mq=true)/\(aD t f i m).2.bu=u
 |0,i,m,h=>⟨fun k hk=>by simp [aD]at hk,h⟩
 |f+1,i,m,h=>by
  simp only[aD]
  split
  ·obtain⟨h1,h2⟩:=ht (m.next 2).2 h
   obtain⟨h3,h4⟩:=w7 ht f (i+1) _ h2
   refine⟨fun k hk=>?_,h4⟩
   rcases List.mem_cons.1 hk with rfl|hk
   ·exact h1
   ·exact h3 k hk
  ·exact⟨(fun k hk=>by cases hk),h⟩
theorem Px {u:Int}{t:Mk->Re×Mk} (ht:KA u t):KA u (fun m=>m.rep t):=by
 intro m h
 have QY:∀m:Mk,m.bu=u->(cU m).2.bu=u:=by
  intro m h
  unfold cU
  simp only
  split <;> exact h
 obtain⟨h3,h4⟩:=ht _ (QY (m.next 12).2 h)
 have hk:(fD t (cU (m.next 12).2).2).1.every Mq=true/\(fD t (cU (m.next 12).2).2).2.bu=u:=by
  unfold fD
  simp only
  split
  ·exact⟨Bt _,h4⟩
  ·exact⟨h3,h4⟩
 exact⟨jv (by decide) (GB hk.1),hk.2⟩
theorem Iq {u:Int} (m:Mk) (h:m.bu=u):(cJ m).2.bu=u:=by
 unfold cJ
 simp only
 split
 ·exact h
 split
 ·split <;> exact h
 ·exact h
theorem zh {u:Int}{t:Mk->Re×Mk} (ht:KA u t):KA u (fun m=>m.fp t):=by
 intro m h
 have h1:=Iq m h
 obtain⟨h3,h4⟩:=ht ((cJ m).2.iy (max (cJ m).2.ai (cJ m).1)) h1
 exact⟨jv (by decide) (GB h3),h4⟩
theorem Nh {u:Int} (JF:eb .and .i64 u 16<=0) (hu:Oh u) {t:Mk->Re×Mk} (ht:KA u t) (k:Int):KA u (fun m=>m.node t k):=by
 intro m h
 have jM:m.has 16=false:=Hn h JF
 have h4:m.has 4=false:=Hn h hu.looks
 have Q6:=w7 ht 4 0 m h
 simp only[Mk.node,jM,h4,Bool.false_eq_true,and_false,if_false]
 split
 ·exact⟨jv (by decide) Q6.1,Q6.2⟩
 split
 ·exact⟨jv (by decide) Q6.1,Q6.2⟩
 split
 ·exact Px ht m h
 split
 ·exact zh ht m h
 split
 ·exact zh ht m h
 split
 ·exact⟨jv (by decide) (GB (ht m h).1),(ht m h).2⟩
 split
 ·exact⟨jv (by decide) (fun k hk=>by cases hk),h⟩
 split
 ·obtain⟨h1,h2⟩:=ht (m.next m.ai).2 h
  obtain⟨h3,h4⟩:=ht _ h2
  refine⟨jv (by decide) (fun k hk=>?_),h4⟩
  rcases List.mem_cons.1 hk with rfl|hk
  ·exact h1
  ·rw[List.mem_singleton.1 hk];exact h3
 ·exact⟨Bt m,h⟩
theorem Fb:(Re.node 0 []).every Mq=true:=jv (by decide) (fun k hk=>by cases hk)
theorem HW {u:Int} (JF:eb .and .i64 u 16<=0) (hu:Oh u):∀d,KA u (Mk.tree d)
 |0=>by
  intro m h
  simp only[Mk.tree]
  split
  ·exact⟨Fb,h⟩
  ·exact⟨Bt _,h⟩
 |d+1=>by
  intro m h
  simp only[Mk.tree]
  split
  ·split
   ·exact⟨Fb,h⟩
   ·exact⟨Bt _,h⟩
  ·exact Nh JF hu (HW JF hu d) (m.less.next 20).1 (m.less.next 20).2 h
theorem PN (l:List Int) (u most:Int) (JF:eb .and .i64 u 16<=0) (hu:Oh u):(jf l u most).re.every Mq=true:=(HW JF hu 5 ⟨l,0,u,most,0⟩ rfl).1
theorem Jj {p q r:Re->Bool} (h:∀re,p re=true->q re=true->r re=true) (re:Re):re.every p=true->re.every q=true->re.every r=true:=by
 refine Re.ind (Q:=fun re=>re.every p=true->re.every q=true->re.every r=true) (fun re ih hp hq=>?_) re
 obtain⟨h1,h2⟩:=(Re.aS re).1 hp
 obtain⟨k1,k2⟩:=(Re.aS re).1 hq
 exact(Re.aS re).2 ⟨h re h1 k1,fun k hk=>ih k hk (h2 k hk) (k2 k hk)⟩
theorem CQ (l:List Int) (n:Int):∀x∈gH l n,eH false x=true:=by
 intro x hx
 unfold gH at hx
 obtain⟨i,_,rfl⟩:=List.mem_map.1 hx
 rw[List.getD_eq_getElem?_getD]
 cases h:mf[(pick l i 12).toNat]? with
 |none=>decide
 |some y =>
  have hm:=List.mem_of_getElem? h
  have bM:∀y∈mf,eH false y=true:=by decide
  exact bM y hm
structure Vk (p:jl) (t:List Int):Prop where
 dG:p.re.dG=true
 len:t.length<=12
 no:p.re.every N0=true
 sym:t.all (eH false)=true
theorem LW (l m:List Int) (hl:∀x∈l,lA x) (hm:∀x∈m,lA x):∃(p:jl) (t:List Int),ba Try.prog 16 [.d (ao l),.d (ao m),i64 0,i64 14,i64 3000] (.tu [bL p,.d (ao t)])/\Vk p t:=by
 have hu:Oh 0:=⟨by decide,by decide,by decide,by decide,by decide⟩
 obtain⟨hv,fo⟩:=wg l 0 14 hl (by omega) (by omega)
 have Vf:=A1 l 0 14 hl (by omega) (by omega)
 have wG:(jf l 0 14).re.dG=true:=zl (by omega) _ Vf.ev
 have Mw:(gH m 12).length<=12:=by simp [gH];omega
 obtain⟨g1,g2,g3⟩:=Ap (p:=jf l 0 14) (t:=gH m 12) (F:=3000) hv wG (by omega) (by omega) ((gH m 12).length+1) (Nat.le_refl _)
 obtain⟨s0,s1,s2⟩:=Pd l 0 14 hu
 have sn:=PN l 0 14 (by decide) hu
 have u4:=HL (jf l 0 14) (gH m 12) 3000 ((gH m 12).length+1)
 have VY:=Er (jf l 0 14) (gH m 12) 3000 ((gH m 12).length+1)
 refine⟨_,_,NT l m hl hm 0 14 3000 (by omega) (by omega),g2,by omega,?_,?_⟩
 ·rcases u4 with h|h
  ·rw[h]
   refine Jj (fun re h1 h2=>?_) _ s2 sn
   have h1:=of_decide_eq_true h1
   have h2:=of_decide_eq_true h2
   exact decide_eq_true (by omega)
  ·rw[h]
   exact(Re.aS _).2 ⟨decide_eq_true (show (0:Int)≠11/\(0:Int)≠7/\(0:Int)≠8 by decide),fun k hk=>by cases hk⟩
 ·rw[List.all_eq_true]
  exact fun x hx=>CQ m 12 x (VY x hx)
theorem Bc {re:Re} (h:re.dG=true) (op:Int):(cC op re).re.dG=true:=by
 show (decide ((0:Nat)<=1000000000)&&(decide ((1:Nat)<=1000000000)&&Re.Ax [re]))=true
 simp [Re.Ax,h]
end Go.Proofs.Ytfmdmlfhigocaaa
