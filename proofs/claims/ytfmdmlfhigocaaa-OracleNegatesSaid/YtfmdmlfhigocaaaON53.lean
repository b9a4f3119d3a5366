/- A part of the proof (E2 E3 E4 K11 K16 K13 K20 K21 K22 K23 K14 K14B K14C K14D K14E K24 K25 K39 K83 O46). -/
import Derived.Test.YtfmdmlfhigocaaaON15
import Derived.Test.YtfmdmlfhigocaaaON24
import Derived.Test.YtfmdmlfhigocaaaON26
import Derived.Test.YtfmdmlfhigocaaaON27
import Derived.Test.YtfmdmlfhigocaaaON32
import Derived.Test.YtfmdmlfhigocaaaON51
import Derived.Test.YtfmdmlfhigocaaaON52
set_option linter.unusedSimpArgs false
set_option linter.unusedVariables false
set_option maxRecDepth 100000
set_option maxHeartbeats 80000000
namespace Go.Proofs.Ytfmdmlfhigocaaa
open Go.VL Go.Proofs.Try
def Pfx (N:Nat) (st':bJ) (o:Option (Bool×bJ)):Prop :=
 (st'.ends.length<N/\o=some (false,st'))\/(N<=st'.ends.length/\∃s2,o=some (true,s2)/\s2.empty=false/\s2.steps<=st'.steps/\s2.ends=st'.ends.take N/\s2.ak=st'.ak.take N)
theorem NT {p:ic}{t:List Int}{i most f:Int} (hv:jl p t f=0) (h0:0<=i) (h1:i<=t.length) (he:(jW p t i most f).2.empty=false):uP p t i most f=0:=by unfold uP;rw[ap (by rw[hv];simp),ap (by omega),ap (by rw[he];simp)]
theorem zM (ak:Int) (h0:0<=ak) (h1:ak<=9):cC ⟨.mk 0 [] [] 0 0 0 0 false,ak,false⟩=0:=by
 have hw:Re.whole (.mk 0 [] [] 0 0 0 0 false) ak (gz false)=true:=by rw[Re.whole,Re.aB];refine⟨?_,λk hk=>by simp [Re.kids]at hk⟩;simp [bK,Re.op,Re.kids,Re.set,Re.mn,Re.mx,Re.mode,Re.n,Re.neg,cr]
 have hs:Re.size (.mk 0 [] [] 0 0 0 0 false)=1:=by rfl
 have hd:Re.depth (.mk 0 [] [] 0 0 0 0 false)=1:=by rfl
 unfold cC;rw[ap (by show ¬(256<Re.size (.mk 0 [] [] 0 0 0 0 false)\/24<Re.depth (.mk 0 [] [] 0 0 0 0 false));rw[hs,hd];omega),ap];show ¬(ak<0\/9<ak\/Re.whole (.mk 0 [] [] 0 0 0 0 false) ak (gz false)=false);rw[hw];simp;omega
theorem Ly (ak:Int) (h0:0<=ak) (h1:ak<=9) (F:Int) (hF0:1<=F) (Ys:F<=1099511627776):uP ⟨.mk 0 [] [] 0 0 0 0 false,ak,false⟩ [] 0 (-1) F=0:=by
 have hv7:jl ⟨.mk 0 [] [] 0 0 0 0 false,ak,false⟩ [] F=0:=by unfold jl;rw[ap (by rw[zM ak h0 h1];simp),ap (by simp),ap (by simp),ap (by omega)]
 refine NT hv7 (agn _) (by simp) ?_;obtain⟨n,e1,e2⟩:=zu (most:=-1) hv7 (agn 0) (by simp);have hlen:(sf ⟨.mk 0 [] [] 0 0 0 0 false,ak,false⟩).length<=9:=by unfold sf;rw[ahe];show ak.toNat<=9;omega
 have NQ:gT [] F 3 (-1) (.run (.mk 0 (.mk 0 [] [] 0 0 0 0 false) 0 0 .nil) 0 (sf ⟨.mk 0 [] [] 0 0 0 0 false,ak,false⟩)) ⟨0,false,[],[]⟩=some (false,⟨1,false,[0],[sf ⟨.mk 0 [] [] 0 0 0 0 false,ak,false⟩]⟩):=by
  generalize sf ⟨.mk 0 [] [] 0 0 0 0 false,ak,false⟩=c at *;show cF [] F (gT [] F 2) (-1) (.run (.mk 0 (.mk 0 [] [] 0 0 0 0 false) 0 0 .nil) 0 c) ⟨0,false,[],[]⟩=_;have cI:(bJ.step F ⟨0,false,[],[]⟩)=⟨1,false,[],[]⟩:=by simp only[bJ.step,agr];congr 1;exact b6 (by omega)
  simp only[cF];rw[ap (by simp),ap (by decide),ap (by decide),ap (by decide),ap (by decide)];show cF [] F (gT [] F 1) (-1) (.node (.mk 0 (.mk 0 [] [] 0 0 0 0 false) 0 0 .nil) 0 c) ⟨0,false,[],[]⟩=_;simp only[cF];rw[ap (by simp),ap (by simp [Re.op]),ap (by simp [Re.set,Re.kids];omega),ap (by simp),cI,ap (by simp)];unfold fL;rw[ap (show ¬(Re.mk 0 [] [] 0 0 0 0 false).op=1 by decide),ap (show ¬(Re.mk 0 [] [] 0 0 0 0 false).op=2 by decide),ap (show ¬(Re.mk 0 [] [] 0 0 0 0 false).op=3 by decide),ap (show ¬(Re.mk 0 [] [] 0 0 0 0 false).op=5 by decide),ap (show ¬(Re.mk 0 [] [] 0 0 0 0 false).op=6 by decide),ap (show ¬((Re.mk 0 [] [] 0 0 0 0 false).op=7\/(Re.mk 0 [] [] 0 0 0 0 false).op=8) by decide),ap (show ¬(Re.mk 0 [] [] 0 0 0 0 false).op=9 by decide),ap (show ¬(Re.mk 0 [] [] 0 0 0 0 false).op=10 by decide),ap (show ¬(Re.mk 0 [] [] 0 0 0 0 false).op=11 by decide)];show cF [] F (gT [] F 0) (-1) (.run .nil 0 c) ⟨1,false,[],[]⟩=_;simp only[cF];rw[ap (by simp),be (by simp)];simp
 have hX:jW ⟨.mk 0 [] [] 0 0 0 0 false,ak,false⟩ [] 0 (-1) F=_:=Qm NQ;rw[hX]
theorem DX {p:ic}{t:List Int}{F:Int} (hv:cC p=0) (hf:p.re.bC=true) (hF0:1<=F) (Ys:F<=1099511627776):∀n,n<=t.length+1->(∀i:Int,0<=i->i<=(cZ p t F n).2.length->uP (cZ p t F n).1 (cZ p t F n).2 i (-1) F=0)/\(cZ p t F n).1.re.bC=true/\(cZ p t F n).2.length<=t.length
 |0,_=>by
  obtain⟨_,_,k3,k4,_⟩:=db hv;refine⟨λi h0 h1=>?_,by rfl,ahn _⟩;have h1:i<=0:=by simpa [cZ]using h1
  have:i=0:=by omega
  subst this;exact Ly p.ak k3 k4 F hF0 Ys
 |n+1,hn=>by
  simp only[cZ];by_cases c:(List.range (n+1)).all (vP p t n F)=true
  ·rw[be c];refine⟨λi h0 h1=>?_,hf,by rw[agN];omega⟩;have hl:(t.take n).length=n:=by rw[agN];omega
   have h1:i<=((t.take n).length:Int):=h1;rw[hl]at h1;have:=List.all_eq_true.1 c i.toNat (List.mem_range.2 (by omega));unfold vP at this;have:=of_decide_eq_true this;rwa [show ((i.toNat:Nat):Int)=i by omega]at this
  ·rw[ap c];exact DX hv hf hF0 Ys n (by omega)
structure Zs (p:ic) (t:List Int):Prop where
 qi:∀i:Int,0<=i->i<=t.length->uP p t i (-1) 3000=0
 valid:cC p=0
 bC:p.re.bC=true
 acT:0<=p.re.jL
 jL:p.re.jL<=4000
 len:t.length<=12
 aN:p.aN=false
theorem Mc (p:ic) (t:List Int) (F:Int):∀n,(cZ p t F n).1=p\/(cZ p t F n).1=⟨.mk 0 [] [] 0 0 0 0 false,p.ak,false⟩
 |0=>.inr rfl
 |n+1=>by
  rw[cZ];split
  ·exact .inl rfl
  ·exact Mc p t F n
theorem IM (p:ic) (t:List Int) (F:Int):∀n,∀x∈(cZ p t F n).2,x∈t
 |0=>λx hx=>by cases hx
 |n+1=>by
  rw[cZ];split
  ·exact λx hx=>agJ hx
  ·exact IM p t F n
end Go.Proofs.Ytfmdmlfhigocaaa
namespace Go.Proofs.Ytfmdmlfhigocaaa
open Go.VL Go.Proofs.Try
def ZO (l:List (Int×Int)):Int:=if qG 1114111 (-2) l=true then (if 64<l.length then 4 else 0) else 1
structure ZB where
 pc:Int
 dP:List Int
structure RSt where
 added:List Bool
 ths:List ZB
def TR (g:J9) (n:Int):jM:=g.ins.getD n.toNat ⟨0,0,0,0,[]⟩
structure J9.qi (g:J9):Prop where
 VV:1<=g.ins.length
 Vv:g.ins.length<=8192
 TA:0<=g.ak
 abv:g.ak<=9
 adP:∀x∈g.ins,x.set.length<=64
 split:∀(i:Nat) (x:jM),g.ins[i]?=some x->x.op=2->0<=x.x/\x.x<g.ins.length/\0<=x.y/\x.y<g.ins.length
 jump:∀(i:Nat) (x:jM),g.ins[i]?=some x->x.op=3->0<=x.x/\x.x<g.ins.length
 save:∀(i:Nat) (x:jM),g.ins[i]?=some x->x.op=4->0<=x.n/\x.n<2*g.ak
 assert:∀(i:Nat) (x:jM),g.ins[i]?=some x->x.op=5->0<=x.n/\x.n<=5
 next:∀(i:Nat) (x:jM),g.ins[i]?=some x->(x.op=1\/4<=x.op)->i+1<g.ins.length
 ops:∀x∈g.ins,0<=x.op/\x.op<=5
structure abP where
 at_:Int
 st:RSt
structure ZB.ok (g:J9) (x:ZB):Prop where
 p0:0<=x.pc
 p1:x.pc<g.ins.length
 dP:x.dP.length=(2*g.ak).toNat
 op:(TR g x.pc).op=0\/(TR g x.pc).op=1
end Go.Proofs.Ytfmdmlfhigocaaa
namespace Go.Proofs.Ytfmdmlfhigocaaa
open Go.VL Go.Proofs.Try
def hiB (aN:Bool) (l:List (Int×Int)):Bool:=aN||(match l[l.length-1]? with|none=>true|some s=>decide (s.2<=255))
def Th (x:jM):Bool:=decide ((x.op≠1->x.set.length=0)/\(x.op≠2->x.y=0)/\(x.op≠2->x.op≠3->x.x=0)/\(x.op≠4->x.op≠5->x.n=0))
end Go.Proofs.Ytfmdmlfhigocaaa
namespace Go.Proofs.Ytfmdmlfhigocaaa
open Go.VL Go.Proofs.Try
end Go.Proofs.Ytfmdmlfhigocaaa
namespace Go.Proofs.Ytfmdmlfhigocaaa
open Go.VL Go.Proofs.Try
end Go.Proofs.Ytfmdmlfhigocaaa
namespace Go.Proofs.Ytfmdmlfhigocaaa
open Go.VL Go.Proofs.Try
structure ab5 (lo hi ak:Int) (aN:Bool) (x:jM):Prop where
 un:Th x=true
 op:x.op=0\/(x.op=1/\ZO x.set=0/\hiB aN x.set=true)\/(x.op=2/\lo<=x.x/\x.x<=hi/\lo<=x.y/\x.y<=hi)\/(x.op=3/\lo<=x.x/\x.x<=hi)\/(x.op=4/\0<=x.n/\x.n<2*ak)\/(x.op=5/\0<=x.n/\x.n<=5)
end Go.Proofs.Ytfmdmlfhigocaaa
namespace Go.Proofs.Ytfmdmlfhigocaaa
open Go.VL Go.Proofs.Try
theorem OX (l:List Int) (n:Int):∀x∈jz l n,fT false x=true:=by
 intro x hx;unfold jz at hx;obtain⟨i,_,rfl⟩:=List.mem_map.1 hx;rw[af9];cases h:ov[(pick l i 12).toNat]? with
 |none=>decide
 |some y =>
  have hm:=afW h;have bA:∀y∈ov,fT false y=true:=by decide
  exact bA y hm
structure aej (p:ic) (t:List Int):Prop where
 bC:p.re.bC=true
 len:t.length<=12
 no:p.re.every noA=true
 sym:t.all (fT false)=true
end Go.Proofs.Ytfmdmlfhigocaaa
