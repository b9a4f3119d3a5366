/- A part of the proof (E2 E3 E4 K11 K16 K13 K20 K21). -/
import Derived.Test.YtfmdmlfhigocaaaOF15
import Derived.Test.YtfmdmlfhigocaaaOF25
import Derived.Test.YtfmdmlfhigocaaaOF28
import Derived.Test.YtfmdmlfhigocaaaOF29
import Derived.Test.YtfmdmlfhigocaaaOF34
import Derived.Test.YtfmdmlfhigocaaaOF50
import Derived.Test.YtfmdmlfhigocaaaOF51
set_option linter.unusedSimpArgs false
set_option linter.unusedVariables false
set_option maxRecDepth 100000
set_option maxHeartbeats 80000000
namespace Go.Proofs.Ytfmdmlfhigocaaa
open Go.VL Go.Proofs.Try
def XT (N:Nat) (st':bq) (o:Option (Bool×bq)):Prop :=
 (st'.ends.length<N/\o=some (false,st'))\/(N<=st'.ends.length/\∃s2,o=some (true,s2)/\s2.empty=false/\s2.steps<=st'.steps/\s2.ends=st'.ends.take N/\s2.ai=st'.ai.take N)
theorem Jg {p:jl}{t:List Int}{i most f:Int} (hv:gU p t f=0) (h0:0<=i) (h1:i<=t.length) (he:(iG p t i most f).2.empty=false):sA p t i most f=0:=by
 unfold sA
 rw[if_neg (by rw[hv];simp),if_neg (by omega),if_neg (by rw[he];simp)]
theorem Eb (ai:Int) (h0:0<=ai) (h1:ai<=9):dQ ⟨.mk 0 [] [] 0 0 0 0 false,ai,false⟩=0:=by
 have hw:Re.whole (.mk 0 [] [] 0 0 0 0 false) ai (fB false)=true:=by
  rw[Re.whole,Re.aS]
  refine⟨?_,fun k hk=>by simp [Re.kids]at hk⟩
  simp [bG,Re.op,Re.kids,Re.set,Re.mn,Re.mx,Re.mode,Re.n,Re.neg,cj]
 have hs:Re.size (.mk 0 [] [] 0 0 0 0 false)=1:=by rfl
 have hd:Re.depth (.mk 0 [] [] 0 0 0 0 false)=1:=by rfl
 unfold dQ
 rw[if_neg (by show ¬(256<Re.size (.mk 0 [] [] 0 0 0 0 false)\/24<Re.depth (.mk 0 [] [] 0 0 0 0 false));rw[hs,hd];omega),if_neg]
 show ¬(ai<0\/9<ai\/Re.whole (.mk 0 [] [] 0 0 0 0 false) ai (fB false)=false)
 rw[hw]
 simp
 omega
theorem Hc (ai:Int) (h0:0<=ai) (h1:ai<=9) (F:Int) (Vv:1<=F) (SU:F<=1099511627776):sA ⟨.mk 0 [] [] 0 0 0 0 false,ai,false⟩ [] 0 (-1) F=0:=by
 have V9:gU ⟨.mk 0 [] [] 0 0 0 0 false,ai,false⟩ [] F=0:=by
  unfold gU
  rw[if_neg (by rw[Eb ai h0 h1];simp),if_neg (by simp),if_neg (by simp),if_neg (by omega)]
 refine Jg V9 (Int.le_refl _) (by simp) ?_
 obtain⟨n,e1,e2⟩:=wu (most:=-1) V9 (Int.le_refl 0) (by simp)
 have hlen:(pD ⟨.mk 0 [] [] 0 0 0 0 false,ai,false⟩).length<=9:=by unfold pD;rw[List.length_replicate];show ai.toNat<=9;omega
 have Jd:fG [] F 3 (-1) (.run (.mk 0 (.mk 0 [] [] 0 0 0 0 false) 0 0 .nil) 0 (pD ⟨.mk 0 [] [] 0 0 0 0 false,ai,false⟩)) ⟨0,false,[],[]⟩=some (false,⟨1,false,[0],[pD ⟨.mk 0 [] [] 0 0 0 0 false,ai,false⟩]⟩):=by
  generalize pD ⟨.mk 0 [] [] 0 0 0 0 false,ai,false⟩=c at *
  show cn [] F (fG [] F 2) (-1) (.run (.mk 0 (.mk 0 [] [] 0 0 0 0 false) 0 0 .nil) 0 c) ⟨0,false,[],[]⟩=_
  have ct:(bq.step F ⟨0,false,[],[]⟩)=⟨1,false,[],[]⟩:=by
   simp only[bq.step,Bool.false_or]
   congr 1
   exact decide_eq_false (by omega)
  simp only[cn]
  rw[if_neg (by simp),if_neg (by decide),if_neg (by decide),if_neg (by decide),if_neg (by decide)]
  show cn [] F (fG [] F 1) (-1) (.node (.mk 0 (.mk 0 [] [] 0 0 0 0 false) 0 0 .nil) 0 c) ⟨0,false,[],[]⟩=_
  simp only[cn]
  rw[if_neg (by simp),if_neg (by simp [Re.op]),if_neg (by simp [Re.set,Re.kids];omega),if_neg (by simp),ct,if_neg (by simp)]
  unfold eE
  rw[if_neg (show ¬(Re.mk 0 [] [] 0 0 0 0 false).op=1 by decide),if_neg (show ¬(Re.mk 0 [] [] 0 0 0 0 false).op=2 by decide),if_neg (show ¬(Re.mk 0 [] [] 0 0 0 0 false).op=3 by decide),if_neg (show ¬(Re.mk 0 [] [] 0 0 0 0 false).op=5 by decide),if_neg (show ¬(Re.mk 0 [] [] 0 0 0 0 false).op=6 by decide),if_neg (show ¬((Re.mk 0 [] [] 0 0 0 0 false).op=7\/(Re.mk 0 [] [] 0 0 0 0 false).op=8) by decide),if_neg (show ¬(Re.mk 0 [] [] 0 0 0 0 false).op=9 by decide),if_neg (show ¬(Re.mk 0 [] [] 0 0 0 0 false).op=10 by decide),if_neg (show ¬(Re.mk 0 [] [] 0 0 0 0 false).op=11 by decide)]
  show cn [] F (fG [] F 0) (-1) (.run .nil 0 c) ⟨1,false,[],[]⟩=_
  simp only[cn]
  rw[if_neg (by simp),if_pos (by simp)]
  simp
 have hX:iG ⟨.mk 0 [] [] 0 0 0 0 false,ai,false⟩ [] 0 (-1) F=_:=Lk Jd
 rw[hX]
theorem Ap {p:jl}{t:List Int}{F:Int} (hv:dQ p=0) (hf:p.re.dG=true) (Vv:1<=F) (SU:F<=1099511627776):∀n,n<=t.length+1->(∀i:Int,0<=i->i<=(cS p t F n).2.length->sA (cS p t F n).1 (cS p t F n).2 i (-1) F=0)/\(cS p t F n).1.re.dG=true/\(cS p t F n).2.length<=t.length
 |0,_=>by
  obtain⟨_,_,k3,k4,_⟩:=gx hv
  refine⟨fun i h0 h1=>?_,by rfl,Nat.zero_le _⟩
  have h1:i<=0:=by simpa [cS]using h1
  have:i=0:=by omega
  subst this
  exact Hc p.ai k3 k4 F Vv SU
 |n+1,hn=>by
  simp only[cS]
  by_cases c:(List.range (n+1)).all (sL p t n F)=true
  ·rw[if_pos c]
   refine⟨fun i h0 h1=>?_,hf,by rw[List.length_take];omega⟩
   have hl:(t.take n).length=n:=by rw[List.length_take];omega
   have h1:i<=((t.take n).length:Int):=h1
   rw[hl]at h1
   have:=List.all_eq_true.1 c i.toNat (List.mem_range.2 (by omega))
   unfold sL at this
   have:=of_decide_eq_true this
   rwa [show ((i.toNat:Nat):Int)=i by omega]at this
  ·rw[if_neg c]
   exact Ap hv hf Vv SU n (by omega)
structure T6 (p:jl) (t:List Int):Prop where
 oz:∀i:Int,0<=i->i<=t.length->sA p t i (-1) 3000=0
 valid:dQ p=0
 dG:p.re.dG=true
 Xp:0<=p.re.FE
 FE:p.re.FE<=4000
 len:t.length<=12
 aU:p.aU=false
theorem HL (p:jl) (t:List Int) (F:Int):∀n,(cS p t F n).1=p\/(cS p t F n).1=⟨.mk 0 [] [] 0 0 0 0 false,p.ai,false⟩
 |0=>.inr rfl
 |n+1=>by
  rw[cS]
  split
  ·exact .inl rfl
  ·exact HL p t F n
theorem Er (p:jl) (t:List Int) (F:Int):∀n,∀x∈(cS p t F n).2,x∈t
 |0=>fun x hx=>by cases hx
 |n+1=>by
  rw[cS]
  split
  ·exact fun x hx=>List.mem_of_mem_take hx
  ·exact Er p t F n
end Go.Proofs.Ytfmdmlfhigocaaa
namespace Go.Proofs.Ytfmdmlfhigocaaa
open Go.VL Go.Proofs.Try
def Up (l:List (Int×Int)):Int:=if od 1114111 (-2) l=true then (if 64<l.length then 4 else 0) else 1
structure Ud where
 pc:Int
 dn:List Int
structure XL where
 added:List Bool
 ZJ:List Ud
def On (g:TA) (n:Int):Jq:=g.ins.getD n.toNat ⟨0,0,0,0,[]⟩
structure TA.oz (g:TA):Prop where
 Qt:1<=g.ins.length
 P5:g.ins.length<=8192
 Wh:0<=g.ai
 V7:g.ai<=9
 Ya:∀x∈g.ins,x.set.length<=64
 split:∀(i:Nat) (x:Jq),g.ins[i]?=some x->x.op=2->0<=x.x/\x.x<g.ins.length/\0<=x.y/\x.y<g.ins.length
 jump:∀(i:Nat) (x:Jq),g.ins[i]?=some x->x.op=3->0<=x.x/\x.x<g.ins.length
 save:∀(i:Nat) (x:Jq),g.ins[i]?=some x->x.op=4->0<=x.n/\x.n<2*g.ai
 assert:∀(i:Nat) (x:Jq),g.ins[i]?=some x->x.op=5->0<=x.n/\x.n<=5
 next:∀(i:Nat) (x:Jq),g.ins[i]?=some x->(x.op=1\/4<=x.op)->i+1<g.ins.length
 ops:∀x∈g.ins,0<=x.op/\x.op<=5
structure Wr where
 at_:Int
 st:XL
end Go.Proofs.Ytfmdmlfhigocaaa
