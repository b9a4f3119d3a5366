/- A part of the proof (G20). -/
import Derived.Test.YtllagoeijcjpiaaBD19
import Derived.Test.YtllagoeijcjpiaaBD18
set_option linter.unusedSimpArgs false
set_option linter.unusedVariables false
set_option maxRecDepth 100000
set_option maxHeartbeats 80000000
namespace Go.Proofs.Ytllagoeijcjpiaa
open Go.VL Go.Proofs.Try
structure GM where
 s:Int
 e:Int
 c:aq
deriving DecidableEq
def GM.v (m:GM):V:=.ag [i64 m.s,i64 m.e,.d (bd m.c)]
theorem PE (a b:GM) (hc:a.c.length≤1000000000):bI prog 63 [a.v,b.v] (bV (decide (a=b))):=by
 obtain⟨s1,e1,c1⟩:=a
 obtain⟨s2,e2,c2⟩:=b
 simp only at hc
 refine av func63 rfl ntmps63 results63 rfl 0 63 (by simp) (by simp) ?_
 by_cases q1:s1=s2
 case neg =>
  simp only[zX,simprocAttr,-Int.reduceNatCast',i64,iD,bd,GM.v,q1]
  rw[decide_eq_false (fun h=>q1 (by simp only[GM.mk.injEq]at h;exact h.1))];rfl
 by_cases q2:e1=e2
 case neg =>
  simp only[zX,simprocAttr,-Int.reduceNatCast',i64,iD,bd,GM.v,q1,q2]
  rw[decide_eq_false (fun h=>q2 (by simp only[GM.mk.injEq]at h;exact h.2.1))];rfl
 by_cases q3:(c1.length:Int)=c2.length
 case neg =>
  simp only[zX,simprocAttr,-Int.reduceNatCast',i64,iD,bd,GM.v,q1,q2,q3,Vv]
  rw[decide_eq_false (fun h=>q3 (by simp only[GM.mk.injEq]at h;rw[h.2.2]))];rfl
 subst q1 q2
 simp only[zX,simprocAttr,-Int.reduceNatCast',i64,iD,bd,GM.v,q3,Vv]
 refine aY (fun n e s=>∃i:Nat,n=c1.length-i∧i≤c1.length∧e 2=.rf 0 0 0 0∧e 3=.rf 1 0 0 0∧e 5=i64 i∧s=[⟨0,true,3,[[i64 s1,i64 e1,.d (bd c1)]]⟩,⟨0,true,3,[[i64 s1,i64 e1,.d (bd c2)]]⟩]∧c1.take i=c2.take i)
  ⟨_,_,_,dt.refl,0,rfl,by omega,rfl,rfl,rfl,rfl,rfl⟩ ?_
 rintro n e s ⟨i,rfl,hi,h2,h3,h5,rfl,yi⟩
 rcases VX i c1.length with aT|iR
 ·have Jo:i<c2.length:=by omega
  have cn:(i:Int)<c2.length:=by omega
  obtain⟨x,hx⟩:∃x,c1[i]?=some x:=⟨_,Vu aT⟩
  obtain⟨y,hy⟩:∃y,c2[i]?=some y:=⟨_,Vu Jo⟩
  simp only[zX,simprocAttr,-Int.reduceNatCast',i64,bd,h2,h3,h5,aT,Jo,q3,cn,Vv]
  refine an mix [] [] (by rfl) ?_
  simp only[zX,simprocAttr,-Int.reduceNatCast',i64,bd,h2,h3,h5,aT,Jo,hx,hy,iD,aM,q3,cn,Vv]
  by_cases QW:x=y
  ·have hb:(x.1 == y.1&&x.2 == y.2)=true:=by simp [QW]
   simp only[zX,simprocAttr,-Int.reduceNatCast',i64,bd,h2,h3,h5,hb]
   refine⟨c1.length-(i+1),_,_,by omega,dt.refl,i+1,rfl,aT,?_,?_,?_,rfl,by rw[fg hx,fg hy,yi,QW]⟩ <;> (try simp only[zU,Nat.reduceBEq,Nat.reduceShiftRight,Nat.reduceMod,Nat.reduceEqDiff,reduceIte])
   ·exact h2
   ·exact h3
   ·rw[bR _ (by omega)];rfl
  ·have hb:(x.1 == y.1&&x.2 == y.2)=false:=by
    rw[V6];intro h;exact QW (by simp at h;exact Prod.ext h.1 h.2)
   simp only[zX,simprocAttr,-Int.reduceNatCast',i64,bd,h2,h3,h5,hb]
   rw[decide_eq_false (fun h=>by simp only[GM.mk.injEq,true_and]at h;subst h;rw[hx]at hy;simp only[Option.some.injEq]at hy;exact QW hy)]
   all_goals first|exact⟨rfl,rfl⟩|exact⟨rfl,trivial⟩|rfl|trivial|(rw[aw];rfl)
 ·have kT:i=c1.length:=by omega
  subst kT
  have Ur:c1=c2:=by
   rw[We,VZ (by omega)]at yi;exact yi
  simp only[zX,simprocAttr,-Int.reduceNatCast',i64,bd,h2,h3,h5,Wj,Vv]
  rw[decide_eq_true (by rw[Ur])]
  all_goals first|exact⟨rfl,rfl⟩|exact⟨rfl,trivial⟩|rfl|trivial|(rw[aw];rfl)
def pK:List Int:=[97,97,97,98,98,99,97,98,10,32,65,200]
def mw (l:List Int) (ah:Int):List Int:=(List.range (min l.length ah.toNat)).map fun i:Nat=>pK.getD (pick l i 12).toNat 0
theorem LB (l:List Int) (hl:∀x∈l,iV x) (ah:Int) (hm:ah≤1000000):bI prog 46 [.d (ay l),i64 ah] (.d (ay (mw l ah))):=by
 refine av func46 rfl ntmps46 results46 rfl 0 115 (by simp) (by simp) ?_
 simp only[Bo,yu,yx,simprocAttr,-Int.reduceNatCast',np,i64]
 refine aY (fun m e s=>∃i:Nat,m=min l.length ah.toNat-i∧i≤min l.length ah.toNat∧e 0=.d (ay l)∧e 1=i64 ah∧e 6=i64 i∧Acc [] 1 (e 5) s (((List.range i).map fun i:Nat=>pK.getD (pick l i 12).toNat 0).map fun x=>[iD x]))
  ⟨_,_,_,dt.refl,0,rfl,by omega,rfl,rfl,rfl,.inl ⟨rfl,rfl⟩⟩ ?_
 rintro m e s ⟨i,rfl,hi,h0,h1,h6,kz⟩
 have hp:=Ga l hl i 12 (by omega)
 have Vf:=cK l i 12 (by omega)
 simp only[i64]at hp
 by_cases c1:(i:Int)<l.length
 case neg =>
  have kT:i=min l.length ah.toNat:=by omega
  simp only[Bo,yu,yx,simprocAttr,-Int.reduceNatCast',np,i64,ay,h0,h1,h6,c1,Vv]
  rw[kz.QS (by simp)]
  subst kT
  simp only[mw,ay]
 by_cases c2:(i:Int)<ah
 case neg =>
  have kT:i=min l.length ah.toNat:=by omega
  simp only[Bo,yu,yx,simprocAttr,-Int.reduceNatCast',np,i64,ay,h0,h1,h6,c1,c2,Vv]
  rw[kz.QS (by simp)]
  subst kT
  simp only[mw,ay]
 simp only[Bo,yu,yx,simprocAttr,-Int.reduceNatCast',np,i64,h0,h1,h6,c1,c2]
 refine aE hp rfl rfl ?_
 have NY:pick l i 12=0∨pick l i 12=1∨pick l i 12=2∨pick l i 12=3∨pick l i 12=4∨pick l i 12=5∨pick l i 12=6∨pick l i 12=7∨pick l i 12=8∨pick l i 12=9∨pick l i 12=10∨pick l i 12=11:=by omega
 have go:∀(z:Int),pK.getD (pick l i 12).toNat 0=z→∀(v':V) (s':List VL.Obj),Acc [] 1 v' s' (((List.range i).map fun i:Nat=>pK.getD (pick l i 12).toNat 0).map (fun x=>[iD x])++[[iD z]])→Acc [] 1 v' s' (((List.range (i+1)).map fun i:Nat=>pK.getD (pick l i 12).toNat 0).map fun x=>[iD x]):=by
  intro z hz v' s' h
  rw[List.range_succ,WA,WA,VP,VO,hz]
  exact h
 rcases NY with q|q|q|q|q|q|q|q|q|q|q|q
 all_goals
  rw[q]at go ⊢
  simp only[Bo,yu,yx,simprocAttr,-Int.reduceNatCast',np,i64,h0,h1,h6,Int.toNat_zero,Int.toNat_one]
  refine⟨by omega,?_⟩
  refine kz.append Oi rfl (by decide) (by decide) (by intro y hy;obtain⟨z,_,rfl⟩:=List.mem_map.1 hy;rfl) (by simp) (by simp) (by simp only[Vv,List.length_range,VC,VK];omega) (fun v' s' BC=>?_)
  simp only[Bo,yu,yx,simprocAttr,-Int.reduceNatCast',np,i64,h0,h1,h6]
  refine⟨min l.length ah.toNat-(i+1),_,_,by omega,dt.refl,i+1,rfl,by omega,?_,?_,?_,?_⟩ <;> (try simp only[zU,Nat.reduceBEq,Nat.reduceShiftRight,Nat.reduceMod,Nat.reduceEqDiff,reduceIte])
  ·exact h0
  ·exact h1
  ·rw[bR _ (by omega)];rfl
  ·exact go _ rfl _ _ BC
noncomputable def rP (p:ic) (t:List Int) (n:Nat) (fuel:Int) (i:Nat):Bool:=decide (gU p (t.take n) i (-1) fuel=0)
noncomputable def eV (p:ic) (t:List Int) (fuel:Int):Nat→ic×List Int
 |0=>(⟨.mk 0 [] [] 0 0 0 0 false,p.ai,false⟩,[])
 |n+1=>if (List.range (n+1)).all (rP p t n fuel)=true then (p,t.take n) else eV p t fuel n
theorem xU (f:Nat→Bool) (n:Nat):(List.range (n+1)).all f=((List.range n).all f&&f n):=by
 rw[List.range_succ,Wi];simp
def rv (p:ic):List VL.Obj:=[⟨0,true,10,[[i64 0,.fu [],.fu [],i64 0,i64 0,i64 0,i64 0,bV false,i64 0,bV false]]⟩,⟨0,true,10,[p.re.cells.map V.d++[i64 p.ai,bV p.bG]]⟩]
theorem Mi (l m:List Int) (hl:∀x∈l,iV x) (hm:∀x∈m,iV x) (cU ah fuel:Int) (h0:0≤ah) (h1:ah≤100) :
  bI prog 21 [.d (ay l),.d (ay m),i64 cU,i64 ah,i64 fuel]
   (.tu [eb (eV (mM l cU ah) (mw m 12) fuel ((mw m 12).length+1)).1,.d (ay (eV (mM l cU ah) (mw m 12) fuel ((mw m 12).length+1)).2)]):=by
 have N4:=ES l cU ah hl h0 (by omega)
 have Sq:=LB m hm 12 (by omega)
 obtain⟨hv,gH⟩:=uT l cU ah hl h0 h1
 have J4:=zQ l cU ah hl h0 h1
 have w8:(mM l cU ah).re.gi=true:=yb (by omega) _ J4.ev
 have PJ:(mw m 12).length≤12:=by simp [mw];omega
 generalize mM l cU ah=p at *
 generalize mw m 12=t at *
 have gI:=fun (n i:Nat)=>Hx p (t.take n) i (-1) fuel w8 (by omega) (by rw[V3];omega)
 generalize hR:eV p t fuel (t.length+1)=R
 have U0:=Re.ae p.re
 simp only[eb,Re.ae p.re,VP,VO,Vz,Vx,i64,iD,bD,bV]at N4 gI
 simp only[i64]at Sq
 refine av func21 rfl ntmps21 results21 rfl 0 654367 (by simp) (by simp) ?_
 simp only[zX,simprocAttr,-Int.reduceNatCast',i64]
 refine aE N4 (by simp [ar,ar.go,aw,i64,bV,ck]) (by simp [ar,ar.go,aw,i64,bV,ck]) ?_
 simp only[zX,simprocAttr,-Int.reduceNatCast',i64]
 refine aE Sq (by simp [ar,ar.go,aw,i64,bV,ck]) (by simp [ar,ar.go,aw,i64,bV,ck]) ?_
 simp only[zX,simprocAttr,-Int.reduceNatCast',i64,ay,Vv]
 refine aY (fun N e s=>e 4=i64 fuel∧e 10=.rf 0 0 0 0∧e 12=.rf 1 0 0 0∧e 13=.d (ay t)∧e 14=i64 ((N:Int)-1)∧N≤t.length+1∧eV p t fuel N=R∧s=rv p)
  ⟨t.length+1,_,_,dt.refl,rfl,rfl,rfl,rfl,?_,VA _,hR,?_⟩ ?_
 ·show i64 _=i64 _
  congr 1
  omega
 ·unfold rv
  rw[Re.ae]
  rfl
 clear N4 Sq hR
 rintro N e s ⟨h4,de,bW,kf,dh,hN,hR,rfl⟩
 cases N with
 |zero =>
  unfold rv
  rw[Re.ae]
  simp only[zX,simprocAttr,-Int.reduceNatCast',i64,h4,de,bW,kf,dh,bD,iD,VG,Int.zero_sub]
  subst hR
  simp only[eV,eb,Re.cells]
  rfl
 |succ n =>
  have Uk:((n+1:Nat):Int)-1=n:=by omega
  rw[Uk]at dh
  have ma:(0:Int)≤n:=by omega
  unfold rv
  rw[Re.ae]
  simp only[zX,simprocAttr,-Int.reduceNatCast',i64,h4,de,bW,kf,dh,bD,iD,ma,ge_iff_le]
  refine aY (fun M e s=>∃i:Nat,M=n+1-i∧i≤n+1∧e 4=i64 fuel∧e 10=.rf 0 0 0 0∧e 12=.rf 1 0 0 0∧e 13=.d (ay t)∧e 14=i64 n∧e 15=bV ((List.range i).all (rP p t n fuel))∧e 16=i64 i∧s=rv p)
   ⟨_,_,_,dt.refl,0,rfl,by omega,?_,?_,?_,?_,?_,rfl,rfl,?_⟩ ?_ <;> (try simp only[zU,Nat.reduceBEq,Nat.reduceShiftRight,Nat.reduceMod,Nat.reduceEqDiff,reduceIte])
  ·exact h4
  ·exact de
  ·exact bW
  ·exact kf
  ·exact dh
  ·unfold rv;rw[Re.ae];rfl
  rintro M e s ⟨i,rfl,hi,h4,de,bW,kf,dh,vA,fj,rfl⟩
  have bad:(List.range (n+1)).all (rP p t n fuel)=false→eV p t fuel n=R:=by
   intro h;rw[eV,h]at hR;exact hR
  by_cases yh:(i:Int)≤n
  ·cases hg:(List.range i).all (rP p t n fuel) with
   |false =>
    rw[hg]at vA
    unfold rv
    rw[Re.ae]
    simp only[zX,simprocAttr,-Int.reduceNatCast',i64,h4,de,bW,kf,dh,vA,fj,bD,iD,yh,bV]
    refine⟨n,_,_,by omega,dt.refl,?_,?_,?_,?_,?_,by omega,bad ?_,?_⟩ <;> (try simp only[zU,Nat.reduceBEq,Nat.reduceShiftRight,Nat.reduceMod,Nat.reduceEqDiff,reduceIte])
    ·exact h4
    ·exact de
    ·exact bW
    ·exact kf
    ·rw[bR _ (by omega)]
    ·rw[V6]at hg ⊢
     intro h
     apply hg
     rw[VT]at h ⊢
     exact fun x hx=>h x (List.mem_range.2 (by have:=List.mem_range.1 hx;omega))
   |true =>
    rw[hg]at vA
    have Mm:=gI n i
    have kv:n≤t.length:=by omega
    unfold rv
    rw[Re.ae]
    simp only[zX,simprocAttr,-Int.reduceNatCast',i64,h4,de,bW,kf,dh,vA,fj,bD,iD,yh,bV]
    refine an mix [] [] (by rfl) ?_
    simp only[zX,simprocAttr,-Int.reduceNatCast',i64,h4,de,bW,kf,dh,vA,fj,bD,iD,ay,Vv,ma,kv]
    refine⟨by omega,?_⟩
    have yi:List.take ((n:Int)-0).toNat (List.map (fun x=>[D.sc (.int .i64 x)]) t)=(t.take n).map (fun x=>[D.sc (.int .i64 x)]):=by
     rw[← List.map_take];congr 2
    rw[yi]
    simp only[ay,iD]at Mm
    refine cz Mm (by simp [ar,ar.go,aw,i64,bV,ck]) (by simp [ar,ar.go,aw,i64,bV,ck]) ?_
    simp only[zX,simprocAttr,-Int.reduceNatCast',i64,h4,de,bW,kf,dh,vA,fj,bD,iD,ay,Vv,ma,kv]
    refine⟨n+1-(i+1),_,_,by omega,dt.refl,i+1,rfl,by omega,?_,?_,?_,?_,?_,?_,?_,?_⟩ <;> (try simp only[zU,Nat.reduceBEq,Nat.reduceShiftRight,Nat.reduceMod,Nat.reduceEqDiff,reduceIte])
    ·exact h4
    ·exact de
    ·exact bW
    ·exact kf
    ·exact dh
    ·rw[xU,hg,Bool.true_and];rfl
    ·rw[bR _ (by omega)];rfl
  ·have kT:i=n+1:=by omega
   subst kT
   cases hg:(List.range (n+1)).all (rP p t n fuel) with
   |false =>
    rw[hg]at vA
    unfold rv
    rw[Re.ae]
    simp only[zX,simprocAttr,-Int.reduceNatCast',i64,h4,de,bW,kf,dh,vA,fj,bD,iD,yh,bV]
    refine⟨n,_,_,by omega,dt.refl,?_,?_,?_,?_,?_,by omega,bad hg,?_⟩ <;> (try simp only[zU,Nat.reduceBEq,Nat.reduceShiftRight,Nat.reduceMod,Nat.reduceEqDiff,reduceIte])
    ·exact h4
    ·exact de
    ·exact bW
    ·exact kf
    ·rw[bR _ (by omega)]
   |true =>
    rw[hg]at vA
    rw[eV,hg,if_pos rfl]at hR
    subst hR
    unfold rv
    rw[Re.ae]
    have kv:n≤t.length:=by omega
    simp only[zX,simprocAttr,-Int.reduceNatCast',i64,h4,de,bW,kf,dh,vA,fj,bD,iD,yh,bV]
    refine an mix [] [(0,[1],[]),(4,[0],[0])] (by rfl) ?_
    simp only[zX,simprocAttr,-Int.reduceNatCast',i64,h4,de,bW,kf,dh,vA,fj,bD,iD,ay,Vv,ma,kv]
    refine⟨by omega,?_⟩
    have yi:List.take ((n:Int)-0).toNat (List.map (fun x=>[D.sc (.int .i64 x)]) t)=(t.take n).map (fun x=>[D.sc (.int .i64 x)]):=by
     rw[← List.map_take];congr 2
    rw[yi,eb,Re.ae]
    rfl
end Go.Proofs.Ytllagoeijcjpiaa
