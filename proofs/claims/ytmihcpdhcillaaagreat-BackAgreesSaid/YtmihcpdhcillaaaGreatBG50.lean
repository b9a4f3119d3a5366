/- A part of the proof (E3 E4 G56 G57). -/
import Derived.Test.YtmihcpdhcillaaaGreatBG21
import Derived.Test.YtmihcpdhcillaaaGreatBG48
import Derived.Test.YtmihcpdhcillaaaGreatBG49
import Derived.Test.YtmihcpdhcillaaaGreatBG29
import Derived.Test.YtmihcpdhcillaaaGreatBG38
set_option linter.unusedSimpArgs false
set_option linter.unusedVariables false
set_option maxRecDepth 100000
set_option maxHeartbeats 80000000
namespace Go.Proofs.YtmihcpdhcillaaaGreat
open Go.VL Go.Proofs.Tryz
theorem pQ {p:fj}{t:List Int}{f f':Int} (h:cc p t f=0) (h0:0≤f') (h1:f'≤1099511627776):cc p t f'=0:=by
 obtain⟨v1,v2,v3,_,_⟩:=du h
 unfold cc
 rw[if_neg (by rw[v1];simp),if_neg (by omega),if_neg (by rw[v3];simp),if_neg (by omega)]
theorem jS {p:fj}{t:List Int}{i ah f:Int} (h:cV p t i ah f=0):cc p t f=0∧0≤i∧i≤t.length∧(bj p t i ah f).2.empty=false:=by
 unfold cV at h
 by_cases c1:cc p t f≠0
 ·rw[if_pos c1]at h;exact absurd h c1
 rw[if_neg c1]at h
 have c1:cc p t f=0:=by simpa using c1
 by_cases c2:i<0∨(t.length:Int)<i
 ·rw[if_pos c2]at h;omega
 rw[if_neg c2]at h
 by_cases c3:(bj p t i ah f).2.empty=true
 ·rw[if_pos c3]at h;omega
 ·exact⟨c1,by omega,by omega,by simpa using c3⟩
theorem qi {p:fj}{t:List Int}{i ah f:Int} (hv:cc p t f=0) (h0:0≤i) (h1:i≤t.length) (he:(bj p t i ah f).2.empty=false):cV p t i ah f=0:=by
 unfold cV
 rw[if_neg (by rw[hv];simp),if_neg (by omega),if_neg (by rw[he];simp)]
theorem u9 {p:fj}{t:List Int}{i ah f:Int} (hv:cc p t f=0) (h0:0≤i) (h1:i≤t.length):∃n b x,bj p t i ah f=(b,x)∧dA t f n ah (.run (.mk 0 p.re 0 0 .nil) i (iR p)) ⟨0,false,[],[]⟩=some (b,x):=by
 obtain⟨n,e,_⟩:=dV (ah:=ah) hv h0 h1
 exact⟨n,_,_,rfl,e⟩
theorem lN {p:fj}{t:List Int}{i ah f:Int} (h:cV p t i ah f=0):0≤dT p t i ah f∧dT p t i ah f≤f:=by
 obtain⟨hv,h0,h1,he⟩:=jS h
 obtain⟨k,_,e2⟩:=dV (ah:=ah) hv h0 h1
 unfold dT
 rw[if_pos h]
 have h2:=e2.empty
 rw[he]at h2
 have:=of_decide_eq_false h2.symm
 have:=e2.s0
 simp only at this
 omega
theorem nS {p:fj}{t:List Int}{i ah f f':Int} (h:cV p t i ah f=0) (hN:dT p t i ah f≤f') (Wb:f'≤1099511627776):cV p t i ah f'=0∧allM p t i ah f'=allM p t i ah f∧dT p t i ah f'=dT p t i ah f∧bj p t i ah f'=bj p t i ah f:=by
 obtain⟨hv,h0,h1,he⟩:=jS h
 obtain⟨ij,gy⟩:=lN h
 have UR:dT p t i ah f=(bj p t i ah f).2.steps:=by unfold dT;rw[if_pos h]
 have Jo:=pQ (f':=f') hv (by omega) Wb
 obtain⟨k,b,x,hx,e1⟩:=u9 (ah:=ah) hv h0 h1
 obtain⟨k',b',x',rV,V6⟩:=u9 (ah:=ah) Jo h0 h1
 rw[hx]at UR he
 have x4:bj p t i ah f'=bj p t i ah f:=by
  rw[hx,rV]
  rcases Int.le_total f' f with hle|hle
  ·have RC:=(xC hle k ah _ _ _ _ e1 rfl).2.2 (by show (0:Int)≤_;omega)
   have:=(rZ (RC.1 (by show x.steps≤f';have:dT p t i ah f=x.steps:=UR;omega)))
   rw[← rV]
   exact this
  ·have RC:=(xC hle k' ah _ _ _ _ V6 rfl).2.2 (by show (0:Int)≤_;omega)
   by_cases aW:x'.steps≤f
   ·have:=rZ (RC.1 aW)
    rw[← hx]
    exact this.symm
   ·obtain⟨s2,q1,q2⟩:=RC.2 (by omega)
    have h3:bj p t i ah f=(true,s2):=rZ q1
    rw[hx]at h3
    cases h3
    rw[show x.empty=true from q2]at he
    cases he
 have hE:cV p t i ah f'=0:=qi Jo h0 h1 (by rw[x4,hx];exact he)
 refine⟨hE,?_,?_,x4⟩
 ·unfold allM;rw[if_pos hE,if_pos h,x4]
 ·unfold dT;rw[if_pos hE,if_pos h,x4]
theorem AM {p:fj}{t:List Int}{i ah f:Int} (h:cV p t i ah f=0):(bj p t i ah f).2.ak.length=(bj p t i ah f).2.ends.length:=by
 obtain⟨hv,h0,h1,he⟩:=jS h
 obtain⟨k,_,e2⟩:=dV (ah:=ah) hv h0 h1
 obtain⟨new,mg,z1,z2,z3,_⟩:=e2.more
 rw[z1,z2];simpa using z3
theorem Ce {α β:Type}:∀(n:Nat) (a:List α) (b:List β),(a.take n).zip (b.take n)=(a.zip b).take n
 |0,a,b=>by simp
 |n+1,[],b=>by simp
 |n+1,x::a,[]=>by simp
 |n+1,x::a,y::b=>by simp [Ce n a b]
theorem rU {p:fj}{t:List Int}{i f:Int}{n:Nat} (hn:1≤n) (h:cV p t i (-1) f=0):cV p t i n f=0∧allM p t i n f=(allM p t i (-1) f).take n∧dT p t i n f≤dT p t i (-1) f:=by
 obtain⟨hv,h0,h1,he⟩:=jS h
 obtain⟨k,b,x,hx,e1⟩:=u9 (ah:=-1) hv h0 h1
 have fC:=AM h
 have pK:allM p t i (-1) f=x.ends.zip x.ak:=by unfold allM;rw[if_pos h,hx]
 have Np:dT p t i (-1) f=x.steps:=by unfold dT;rw[if_pos h,hx]
 rw[hx]at he fC
 simp only at he fC
 rcases yl (N:=n) k _ _ _ _ e1 rfl he (by show 0<n;omega) rfl with ⟨c1,c2⟩|⟨c1,s2,c2,c3,c4,c5,c6⟩
 ·have BI:bj p t i n f=(false,x):=rZ c2
  have hE:cV p t i n f=0:=qi hv h0 h1 (by rw[BI];exact he)
  refine⟨hE,?_,?_⟩
  ·rw[pK]
   unfold allM
   rw[if_pos hE,BI]
   exact(Xv (by rw[List.length_zip,fC];simp;omega)).symm
  ·rw[Np]
   unfold dT
   rw[if_pos hE,BI]
   exact WW _
 ·have BI:bj p t i n f=(true,s2):=rZ c2
  have hE:cV p t i n f=0:=qi hv h0 h1 (by rw[BI];exact c3)
  refine⟨hE,?_,?_⟩
  ·rw[pK]
   unfold allM
   rw[if_pos hE,BI]
   show s2.ends.zip s2.ak=_
   rw[c5,c6,Ce]
  ·rw[Np]
   unfold dT
   rw[if_pos hE,BI]
   exact c4
theorem CU (ak:Int) (h0:0≤ak) (h1:ak≤9):df ⟨.mk 0 [] [] 0 0 0 0 false,ak,false⟩=0:=by
 have hw:Re.whole (.mk 0 [] [] 0 0 0 0 false) ak (eG false)=true:=by
  rw[Re.whole,Re.ck]
  refine⟨?_,fun k hk=>by simp [Re.kids]at hk⟩
  simp [b7,Re.op,Re.kids,Re.set,Re.mn,Re.mx,Re.mode,Re.n,Re.neg,cR]
 have hs:Re.size (.mk 0 [] [] 0 0 0 0 false)=1:=by rfl
 have hd:Re.depth (.mk 0 [] [] 0 0 0 0 false)=1:=by rfl
 unfold df
 rw[if_neg (by show ¬(256<Re.size (.mk 0 [] [] 0 0 0 0 false)∨24<Re.depth (.mk 0 [] [] 0 0 0 0 false));rw[hs,hd];omega),if_neg]
 show ¬(ak<0∨9<ak∨Re.whole (.mk 0 [] [] 0 0 0 0 false) ak (eG false)=false)
 rw[hw]
 simp
 omega
theorem Ez (ak:Int) (h0:0≤ak) (h1:ak≤9) (F:Int) (PH:1≤F) (Qh:F≤1099511627776):cV ⟨.mk 0 [] [] 0 0 0 0 false,ak,false⟩ [] 0 (-1) F=0:=by
 have Ph:cc ⟨.mk 0 [] [] 0 0 0 0 false,ak,false⟩ [] F=0:=by
  unfold cc
  rw[if_neg (by rw[CU ak h0 h1];simp),if_neg (by simp),if_neg (by simp),if_neg (by omega)]
 refine qi Ph (WW _) (by simp) ?_
 obtain⟨n,e1,e2⟩:=dV (ah:=-1) Ph (WW 0) (by simp)
 have hlen:(iR ⟨.mk 0 [] [] 0 0 0 0 false,ak,false⟩).length≤9:=by unfold iR;rw[XD];show ak.toNat≤9;omega
 have eX:dA [] F 3 (-1) (.run (.mk 0 (.mk 0 [] [] 0 0 0 0 false) 0 0 .nil) 0 (iR ⟨.mk 0 [] [] 0 0 0 0 false,ak,false⟩)) ⟨0,false,[],[]⟩=some (false,⟨1,false,[0],[iR ⟨.mk 0 [] [] 0 0 0 0 false,ak,false⟩]⟩):=by
  generalize iR ⟨.mk 0 [] [] 0 0 0 0 false,ak,false⟩=c at *
  show bI [] F (dA [] F 2) (-1) (.run (.mk 0 (.mk 0 [] [] 0 0 0 0 false) 0 0 .nil) 0 c) ⟨0,false,[],[]⟩=_
  have aW:(aQ.step F ⟨0,false,[],[]⟩)=⟨1,false,[],[]⟩:=by
   simp only[aQ.step,Xj]
   congr 1
   exact decide_eq_false (by omega)
  simp only[bI]
  rw[if_neg (by simp),if_neg (by decide),if_neg (by decide),if_neg (by decide),if_neg (by decide)]
  show bI [] F (dA [] F 1) (-1) (.node (.mk 0 (.mk 0 [] [] 0 0 0 0 false) 0 0 .nil) 0 c) ⟨0,false,[],[]⟩=_
  simp only[bI]
  rw[if_neg (by simp),if_neg (by simp [Re.op]),if_neg (by simp [Re.set,Re.kids];omega),if_neg (by simp),aW,if_neg (by simp)]
  unfold cQ
  rw[if_neg (show ¬(Re.mk 0 [] [] 0 0 0 0 false).op=1 by decide),if_neg (show ¬(Re.mk 0 [] [] 0 0 0 0 false).op=2 by decide),if_neg (show ¬(Re.mk 0 [] [] 0 0 0 0 false).op=3 by decide),if_neg (show ¬(Re.mk 0 [] [] 0 0 0 0 false).op=5 by decide),if_neg (show ¬(Re.mk 0 [] [] 0 0 0 0 false).op=6 by decide),if_neg (show ¬((Re.mk 0 [] [] 0 0 0 0 false).op=7∨(Re.mk 0 [] [] 0 0 0 0 false).op=8) by decide),if_neg (show ¬(Re.mk 0 [] [] 0 0 0 0 false).op=9 by decide),if_neg (show ¬(Re.mk 0 [] [] 0 0 0 0 false).op=10 by decide),if_neg (show ¬(Re.mk 0 [] [] 0 0 0 0 false).op=11 by decide)]
  show bI [] F (dA [] F 0) (-1) (.run .nil 0 c) ⟨1,false,[],[]⟩=_
  simp only[bI]
  rw[if_neg (by simp),if_pos (by simp)]
  simp
 have hX:bj ⟨.mk 0 [] [] 0 0 0 0 false,ak,false⟩ [] 0 (-1) F=_:=rZ eX
 rw[hX]
theorem zA {p:fj}{t:List Int}{F:Int} (hv:df p=0) (hf:p.re.fA=true) (PH:1≤F) (Qh:F≤1099511627776):∀n,n≤t.length+1→(∀i:Int,0≤i→i≤(eN p t F n).2.length→cV (eN p t F n).1 (eN p t F n).2 i (-1) F=0)∧(eN p t F n).1.re.fA=true∧(eN p t F n).2.length≤t.length
 |0,_=>by
  obtain⟨_,_,k3,k4,_⟩:=eC hv
  refine⟨fun i h0 h1=>?_,by rfl,Nat.zero_le _⟩
  have h1:i≤0:=by simpa [eN]using h1
  have:i=0:=by omega
  subst this
  exact Ez p.ak k3 k4 F PH Qh
 |n+1,hn=>by
  simp only[eN]
  by_cases c:(List.range (n+1)).all (rJ p t n F)=true
  ·rw[if_pos c]
   refine⟨fun i h0 h1=>?_,hf,by rw[Xu];omega⟩
   have hl:(t.take n).length=n:=by rw[Xu];omega
   have h1:i≤((t.take n).length:Int):=h1
   rw[hl]at h1
   have:=List.all_eq_true.1 c i.toNat (List.mem_range.2 (by omega))
   unfold rJ at this
   have:=of_decide_eq_true this
   rwa [show ((i.toNat:Nat):Int)=i by omega]at this
  ·rw[if_neg c]
   exact zA hv hf PH Qh n (by omega)
theorem LV {p:fj}{t:List Int}{f:Int} (h:cc p t f=0):∀x∈t,jX x:=by
 intro x hx
 have:=List.all_eq_true.1 (du h).2.2.1 x hx
 unfold kr at this
 have hr:=jL p.bk
 simp only[W7,decide_eq_true_eq]at this
 unfold jX;omega
theorem Ko (l m:List Int) (hl:∀x∈l,jX x) (hm:∀x∈m,jX x):∃(p:fj) (t:List Int),br prog 4 [.d (aB l),.d (aB m),i64 127,i64 14,i64 3000] (.tu [cN p,.d (aB t)]) ∧
  (∀i:Int,0≤i→i≤t.length→cV p t i (-1) 3000=0)∧p.re.fA=true∧t.length≤12:=by
 obtain⟨hv,iB⟩:=uX l 127 14 hl (by omega) (by omega)
 have Iy:=Ak l 127 14 hl (by omega) (by omega)
 have wZ:(mY l 127 14).re.fA=true:=wY (by omega) _ Iy.ev
 have RA:(mA m 12).length≤12:=by simp [mA];omega
 obtain⟨g1,g2,g3⟩:=zA (p:=mY l 127 14) (t:=mA m 12) (F:=3000) hv wZ (by omega) (by omega) ((mA m 12).length+1) (W4 _)
 exact⟨_,_,MZ l m hl hm 127 14 3000 (by omega) (by omega),g1,g2,by omega⟩
end Go.Proofs.YtmihcpdhcillaaaGreat
