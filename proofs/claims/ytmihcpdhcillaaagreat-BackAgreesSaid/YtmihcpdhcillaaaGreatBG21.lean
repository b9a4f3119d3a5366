/- A part of the proof (G20). -/
import Derived.Test.YtmihcpdhcillaaaGreatBG20
import Derived.Test.YtmihcpdhcillaaaGreatBG19
set_option linter.unusedSimpArgs false
set_option linter.unusedVariables false
set_option maxRecDepth 100000
set_option maxHeartbeats 80000000
namespace Go.Proofs.YtmihcpdhcillaaaGreat
open Go.VL Go.Proofs.Tryz
structure FV where
 s:Int
 e:Int
 c:ar
deriving DecidableEq
def FV.v (m:FV):V:=.ag [i64 m.s,i64 m.e,.d (bH m.c)]
def pT:List Int:=[97,97,97,98,98,99,97,98,10,32,65,200]
def mA (l:List Int) (ah:Int):List Int:=(List.range (min l.length ah.toNat)).map fun i:Nat=>pT.getD (pick l i 12).toNat 0
theorem L4 (l:List Int) (hl:∀x∈l,jX x) (ah:Int) (hm:ah≤1000000):br prog 12 [.d (aB l),i64 ah] (.d (aB (mA l ah))):=by
 refine aw func12 rfl ntmps12 results12 rfl 0 115 (by simp) (by simp) ?_
 simp only[BU,zj,zl,simprocAttr,-Int.reduceNatCast',nL,i64]
 refine aX (fun m e s=>∃i:Nat,m=min l.length ah.toNat-i∧i≤min l.length ah.toNat∧e 0=.d (aB l)∧e 1=i64 ah∧e 6=i64 i∧Acc [] 1 (e 5) s (((List.range i).map fun i:Nat=>pT.getD (pick l i 12).toNat 0).map fun x=>[iD x]))
  ⟨_,_,_,dw.refl,0,rfl,by omega,rfl,rfl,rfl,.inl ⟨rfl,rfl⟩⟩ ?_
 rintro m e s ⟨i,rfl,hi,h0,h1,h6,ky⟩
 have hp:=Gf l hl i 12 (by omega)
 have WG:=cB l i 12 (by omega)
 simp only[i64]at hp
 by_cases c1:(i:Int)<l.length
 case neg =>
  have iQ:i=min l.length ah.toNat:=by omega
  simp only[BU,zj,zl,simprocAttr,-Int.reduceNatCast',nL,i64,aB,h0,h1,h6,c1,W1]
  rw[ky.Rx (by simp)]
  subst iQ
  simp only[mA,aB]
 by_cases c2:(i:Int)<ah
 case neg =>
  have iQ:i=min l.length ah.toNat:=by omega
  simp only[BU,zj,zl,simprocAttr,-Int.reduceNatCast',nL,i64,aB,h0,h1,h6,c1,c2,W1]
  rw[ky.Rx (by simp)]
  subst iQ
  simp only[mA,aB]
 simp only[BU,zj,zl,simprocAttr,-Int.reduceNatCast',nL,i64,h0,h1,h6,c1,c2]
 refine aD hp rfl rfl ?_
 have Pl:pick l i 12=0∨pick l i 12=1∨pick l i 12=2∨pick l i 12=3∨pick l i 12=4∨pick l i 12=5∨pick l i 12=6∨pick l i 12=7∨pick l i 12=8∨pick l i 12=9∨pick l i 12=10∨pick l i 12=11:=by omega
 have go:∀(z:Int),pT.getD (pick l i 12).toNat 0=z→∀(v':V) (s':List VL.Obj),Acc [] 1 v' s' (((List.range i).map fun i:Nat=>pT.getD (pick l i 12).toNat 0).map (fun x=>[iD x])++[[iD z]])→Acc [] 1 v' s' (((List.range (i+1)).map fun i:Nat=>pT.getD (pick l i 12).toNat 0).map fun x=>[iD x]):=by
  intro z hz v' s' h
  rw[List.range_succ,XC,XC,WU,WV,hz]
  exact h
 rcases Pl with q|q|q|q|q|q|q|q|q|q|q|q
 all_goals
  rw[q]at go ⊢
  simp only[BU,zj,zl,simprocAttr,-Int.reduceNatCast',nL,i64,h0,h1,h6,Int.toNat_zero,Int.toNat_one]
  refine⟨by omega,?_⟩
  refine ky.append N1 rfl (by decide) (by decide) (by intro y hy;obtain⟨z,_,rfl⟩:=List.mem_map.1 hy;rfl) (by simp) (by simp) (by simp only[W1,List.length_range,W3,Xa];omega) (fun v' s' DP=>?_)
  simp only[BU,zj,zl,simprocAttr,-Int.reduceNatCast',nL,i64,h0,h1,h6]
  refine⟨min l.length ah.toNat-(i+1),_,_,by omega,dw.refl,i+1,rfl,by omega,?_,?_,?_,?_⟩ <;> (try simp only[zU,Nat.reduceBEq,Nat.reduceShiftRight,Nat.reduceMod,Nat.reduceEqDiff,reduceIte])
  ·exact h0
  ·exact h1
  ·rw[bU _ (by omega)];rfl
  ·exact go _ rfl _ _ DP
noncomputable def rJ (p:fj) (t:List Int) (n:Nat) (fuel:Int) (i:Nat):Bool:=decide (cV p (t.take n) i (-1) fuel=0)
noncomputable def eN (p:fj) (t:List Int) (fuel:Int):Nat→fj×List Int
 |0=>(⟨.mk 0 [] [] 0 0 0 0 false,p.ak,false⟩,[])
 |n+1=>if (List.range (n+1)).all (rJ p t n fuel)=true then (p,t.take n) else eN p t fuel n
theorem xx (f:Nat→Bool) (n:Nat):(List.range (n+1)).all f=((List.range n).all f&&f n):=by
 rw[List.range_succ,XI];simp
def rp (p:fj):List VL.Obj:=[⟨0,true,10,[[i64 0,.fu [],.fu [],i64 0,i64 0,i64 0,i64 0,bV false,i64 0,bV false]]⟩,⟨0,true,10,[p.re.cells.map V.d++[i64 p.ak,bV p.bk]]⟩]
theorem MZ (l m:List Int) (hl:∀x∈l,jX x) (hm:∀x∈m,jX x) (cL ah fuel:Int) (h0:0≤ah) (h1:ah≤100) :
  br prog 4 [.d (aB l),.d (aB m),i64 cL,i64 ah,i64 fuel]
   (.tu [cN (eN (mY l cL ah) (mA m 12) fuel ((mA m 12).length+1)).1,.d (aB (eN (mY l cL ah) (mA m 12) fuel ((mA m 12).length+1)).2)]):=by
 have OJ:=Fz l cL ah hl h0 (by omega)
 have Sd:=L4 m hm 12 (by omega)
 obtain⟨hv,iB⟩:=uX l cL ah hl h0 h1
 have Iy:=Ak l cL ah hl h0 h1
 have wZ:(mY l cL ah).re.fA=true:=wY (by omega) _ Iy.ev
 have RA:(mA m 12).length≤12:=by simp [mA];omega
 generalize mY l cL ah=p at *
 generalize mA m 12=t at *
 have fM:=fun (n i:Nat)=>Hb p (t.take n) i (-1) fuel wZ (by omega) (by rw[Xu];omega)
 generalize hR:eN p t fuel (t.length+1)=R
 have yH:=Re.ae p.re
 simp only[cN,Re.ae p.re,WU,WV,WR,WS,i64,iD,bD,bV]at OJ fM
 simp only[i64]at Sd
 refine aw func4 rfl ntmps4 results4 rfl 0 654367 (by simp) (by simp) ?_
 simp only[zX,simprocAttr,-Int.reduceNatCast',i64]
 refine aD OJ (by simp [ao,ao.go,ay,i64,bV,bT]) (by simp [ao,ao.go,ay,i64,bV,bT]) ?_
 simp only[zX,simprocAttr,-Int.reduceNatCast',i64]
 refine aD Sd (by simp [ao,ao.go,ay,i64,bV,bT]) (by simp [ao,ao.go,ay,i64,bV,bT]) ?_
 simp only[zX,simprocAttr,-Int.reduceNatCast',i64,aB,W1]
 refine aX (fun N e s=>e 4=i64 fuel∧e 10=.rf 0 0 0 0∧e 12=.rf 1 0 0 0∧e 13=.d (aB t)∧e 14=i64 ((N:Int)-1)∧N≤t.length+1∧eN p t fuel N=R∧s=rp p)
  ⟨t.length+1,_,_,dw.refl,rfl,rfl,rfl,rfl,?_,W4 _,hR,?_⟩ ?_
 ·show i64 _=i64 _
  congr 1
  omega
 ·unfold rp
  rw[Re.ae]
  rfl
 clear OJ Sd hR
 rintro N e s ⟨h4,gu,eU,fh,eV,hN,hR,rfl⟩
 cases N with
 |zero =>
  unfold rp
  rw[Re.ae]
  simp only[zX,simprocAttr,-Int.reduceNatCast',i64,h4,gu,eU,fh,eV,bD,iD,W8,Int.zero_sub]
  subst hR
  simp only[eN,cN,Re.cells]
  rfl
 |succ n =>
  have Vs:((n+1:Nat):Int)-1=n:=by omega
  rw[Vs]at eV
  have nj:(0:Int)≤n:=by omega
  unfold rp
  rw[Re.ae]
  simp only[zX,simprocAttr,-Int.reduceNatCast',i64,h4,gu,eU,fh,eV,bD,iD,nj,ge_iff_le]
  refine aX (fun M e s=>∃i:Nat,M=n+1-i∧i≤n+1∧e 4=i64 fuel∧e 10=.rf 0 0 0 0∧e 12=.rf 1 0 0 0∧e 13=.d (aB t)∧e 14=i64 n∧e 15=bV ((List.range i).all (rJ p t n fuel))∧e 16=i64 i∧s=rp p)
   ⟨_,_,_,dw.refl,0,rfl,by omega,?_,?_,?_,?_,?_,rfl,rfl,?_⟩ ?_ <;> (try simp only[zU,Nat.reduceBEq,Nat.reduceShiftRight,Nat.reduceMod,Nat.reduceEqDiff,reduceIte])
  ·exact h4
  ·exact gu
  ·exact eU
  ·exact fh
  ·exact eV
  ·unfold rp;rw[Re.ae];rfl
  rintro M e s ⟨i,rfl,hi,h4,gu,eU,fh,eV,jB,Hf,rfl⟩
  have bad:(List.range (n+1)).all (rJ p t n fuel)=false→eN p t fuel n=R:=by
   intro h;rw[eN,h]at hR;exact hR
  by_cases yQ:(i:Int)≤n
  ·cases hg:(List.range i).all (rJ p t n fuel) with
   |false =>
    rw[hg]at jB
    unfold rp
    rw[Re.ae]
    simp only[zX,simprocAttr,-Int.reduceNatCast',i64,h4,gu,eU,fh,eV,jB,Hf,bD,iD,yQ,bV]
    refine⟨n,_,_,by omega,dw.refl,?_,?_,?_,?_,?_,by omega,bad ?_,?_⟩ <;> (try simp only[zU,Nat.reduceBEq,Nat.reduceShiftRight,Nat.reduceMod,Nat.reduceEqDiff,reduceIte])
    ·exact h4
    ·exact gu
    ·exact eU
    ·exact fh
    ·rw[bU _ (by omega)]
    ·rw[Xz]at hg ⊢
     intro h
     apply hg
     rw[Xn]at h ⊢
     exact fun x hx=>h x (List.mem_range.2 (by have:=List.mem_range.1 hx;omega))
   |true =>
    rw[hg]at jB
    have nG:=fM n i
    have fY:n≤t.length:=by omega
    unfold rp
    rw[Re.ae]
    simp only[zX,simprocAttr,-Int.reduceNatCast',i64,h4,gu,eU,fh,eV,jB,Hf,bD,iD,yQ,bV]
    refine aq mix [] [] (by rfl) ?_
    simp only[zX,simprocAttr,-Int.reduceNatCast',i64,h4,gu,eU,fh,eV,jB,Hf,bD,iD,aB,W1,nj,fY]
    refine⟨by omega,?_⟩
    have vf:List.take ((n:Int)-0).toNat (List.map (fun x=>[D.sc (.int .i64 x)]) t)=(t.take n).map (fun x=>[D.sc (.int .i64 x)]):=by
     rw[← XR];congr 2
    rw[vf]
    simp only[aB,iD]at nG
    refine cP nG (by simp [ao,ao.go,ay,i64,bV,bT]) (by simp [ao,ao.go,ay,i64,bV,bT]) ?_
    simp only[zX,simprocAttr,-Int.reduceNatCast',i64,h4,gu,eU,fh,eV,jB,Hf,bD,iD,aB,W1,nj,fY]
    refine⟨n+1-(i+1),_,_,by omega,dw.refl,i+1,rfl,by omega,?_,?_,?_,?_,?_,?_,?_,?_⟩ <;> (try simp only[zU,Nat.reduceBEq,Nat.reduceShiftRight,Nat.reduceMod,Nat.reduceEqDiff,reduceIte])
    ·exact h4
    ·exact gu
    ·exact eU
    ·exact fh
    ·exact eV
    ·rw[xx,hg,X0];rfl
    ·rw[bU _ (by omega)];rfl
  ·have iQ:i=n+1:=by omega
   subst iQ
   cases hg:(List.range (n+1)).all (rJ p t n fuel) with
   |false =>
    rw[hg]at jB
    unfold rp
    rw[Re.ae]
    simp only[zX,simprocAttr,-Int.reduceNatCast',i64,h4,gu,eU,fh,eV,jB,Hf,bD,iD,yQ,bV]
    refine⟨n,_,_,by omega,dw.refl,?_,?_,?_,?_,?_,by omega,bad hg,?_⟩ <;> (try simp only[zU,Nat.reduceBEq,Nat.reduceShiftRight,Nat.reduceMod,Nat.reduceEqDiff,reduceIte])
    ·exact h4
    ·exact gu
    ·exact eU
    ·exact fh
    ·rw[bU _ (by omega)]
   |true =>
    rw[hg]at jB
    rw[eN,hg,if_pos rfl]at hR
    subst hR
    unfold rp
    rw[Re.ae]
    have fY:n≤t.length:=by omega
    simp only[zX,simprocAttr,-Int.reduceNatCast',i64,h4,gu,eU,fh,eV,jB,Hf,bD,iD,yQ,bV]
    refine aq mix [] [(0,[1],[]),(4,[0],[0])] (by rfl) ?_
    simp only[zX,simprocAttr,-Int.reduceNatCast',i64,h4,gu,eU,fh,eV,jB,Hf,bD,iD,aB,W1,nj,fY]
    refine⟨by omega,?_⟩
    have vf:List.take ((n:Int)-0).toNat (List.map (fun x=>[D.sc (.int .i64 x)]) t)=(t.take n).map (fun x=>[D.sc (.int .i64 x)]):=by
     rw[← XR];congr 2
    rw[vf,cN,Re.ae]
    rfl
end Go.Proofs.YtmihcpdhcillaaaGreat
