/- A part of the proof (G20). -/
import Derived.Test.YtllagoeijcjpiaaSL18
import Derived.Test.YtllagoeijcjpiaaSL20
set_option linter.unusedSimpArgs false
set_option linter.unusedVariables false
set_option maxRecDepth 100000
set_option maxHeartbeats 80000000
namespace Go.Proofs.Ytllagoeijcjpiaa
open Go.VL Go.Proofs.Try
structure Mat where
 s:Int
 e:Int
 c:CapsL
deriving DecidableEq
def Mat.v (m:Mat):V:=.ag [i64 m.s,i64 m.e,.d (capD m.c)]
theorem equal_ok (a b:Mat) (hc:a.c.length≤1000000000):PureOK prog 63 [a.v,b.v] (bV (decide (a=b))):=by
 obtain⟨s1,e1,c1⟩:=a
 obtain⟨s2,e2,c2⟩:=b
 simp only at hc
 refine fn_ok func63 rfl ntmps63 results63 rfl 0 63 (by simp) (by simp) ?_
 by_cases q1:s1=s2
 case neg =>
  simp only[zX,simprocAttr,-Int.reduceNatCast',i64,iD,capD,Mat.v,q1]
  rw[decide_eq_false (fun h=>q1 (by simp only[Mat.mk.injEq] at h; exact h.1))]; rfl
 by_cases q2:e1=e2
 case neg =>
  simp only[zX,simprocAttr,-Int.reduceNatCast',i64,iD,capD,Mat.v,q1,q2]
  rw[decide_eq_false (fun h=>q2 (by simp only[Mat.mk.injEq] at h; exact h.2.1))]; rfl
 by_cases q3:(c1.length:Int)=c2.length
 case neg =>
  simp only[zX,simprocAttr,-Int.reduceNatCast',i64,iD,capD,Mat.v,q1,q2,q3,List.length_map]
  rw[decide_eq_false (fun h=>q3 (by simp only[Mat.mk.injEq] at h; rw[h.2.2]))]; rfl
 subst q1 q2
 simp only[zX,simprocAttr,-Int.reduceNatCast',i64,iD,capD,Mat.v,q3,List.length_map]
 refine loop_rule (fun n e s=>∃i:Nat,n=c1.length - i∧i≤c1.length∧e 2=.rf 0 0 0 0∧e 3=.rf 1 0 0 0∧e 5=i64 i∧s=[⟨0,true,3,[[i64 s1,i64 e1,.d (capD c1)]]⟩,⟨0,true,3,[[i64 s1,i64 e1,.d (capD c2)]]⟩]∧c1.take i=c2.take i)
  ⟨_,_,_,Cln.refl,0,rfl,by omega,rfl,rfl,rfl,rfl,rfl⟩ ?_
 rintro n e s ⟨i,rfl,hi,h2,h3,h5,rfl,htk⟩
 rcases Nat.lt_or_ge i c1.length with hlt | hge
 ·have hltb:i < c2.length:=by omega
  have hlt':(i:Int) < c2.length:=by omega
  obtain⟨x,hx⟩:∃x,c1[i]?=some x:=⟨_,List.getElem?_eq_getElem hlt⟩
  obtain⟨y,hy⟩:∃y,c2[i]?=some y:=⟨_,List.getElem?_eq_getElem hltb⟩
  simp only[zX,simprocAttr,-Int.reduceNatCast',i64,capD,h2,h3,h5,hlt,hltb,q3,hlt',List.length_map]
  refine draw_c mix [] [] (by rfl) ?_
  simp only[zX,simprocAttr,-Int.reduceNatCast',i64,capD,h2,h3,h5,hlt,hltb,hx,hy,iD,spanC,q3,hlt',List.length_map]
  by_cases hxy:x=y
  ·have hb:(x.1 == y.1&&x.2 == y.2)=true:=by simp [hxy]
   simp only[zX,simprocAttr,-Int.reduceNatCast',i64,capD,h2,h3,h5,hb]
   refine⟨c1.length - (i + 1),_,_,by omega,Cln.refl,i + 1,rfl,hlt,?_,?_,?_,rfl,by rw[take_get hx,take_get hy,htk,hxy]⟩ <;> (try simp only[zU,Nat.reduceBEq,Nat.reduceShiftRight,Nat.reduceMod,Nat.reduceEqDiff,reduceIte])
   ·exact h2
   ·exact h3
   ·rw[w64 _ (by omega)]; rfl
  ·have hb:(x.1 == y.1&&x.2 == y.2)=false:=by
    rw[Bool.eq_false_iff]; intro h; exact hxy (by simp at h; exact Prod.ext h.1 h.2)
   simp only[zX,simprocAttr,-Int.reduceNatCast',i64,capD,h2,h3,h5,hb]
   rw[decide_eq_false (fun h=>by simp only[Mat.mk.injEq,true_and] at h; subst h; rw[hx] at hy; simp only[Option.some.injEq] at hy; exact hxy hy)]
   all_goals first | exact⟨rfl,rfl⟩ | exact⟨rfl,trivial⟩ | rfl | trivial | (rw[reV_eq]; rfl)
 ·have hie:i=c1.length:=by omega
  subst hie
  have hab:c1=c2:=by
   rw[List.take_length,List.take_of_length_le (by omega)] at htk; exact htk
  simp only[zX,simprocAttr,-Int.reduceNatCast',i64,capD,h2,h3,h5,Nat.lt_irrefl,List.length_map]
  rw[decide_eq_true (by rw[hab])]
  all_goals first | exact⟨rfl,rfl⟩ | exact⟨rfl,trivial⟩ | rfl | trivial | (rw[reV_eq]; rfl)
def textSyms:List Int:=[97,97,97,98,98,99,97,98,10,32,65,200]
def textR (l:List Int) (most:Int):List Int:=(List.range (min l.length most.toNat)).map fun i:Nat=>textSyms.getD (pick l i 12).toNat 0
theorem text_ok (l:List Int) (hl:∀x∈l,I64 x) (most:Int) (hm:most≤1000000):PureOK prog 46 [.d (intsD l),i64 most] (.d (intsD (textR l most))):=by
 refine fn_ok func46 rfl ntmps46 results46 rfl 0 115 (by simp) (by simp) ?_
 simp only[vsL,vsB,vsC,simprocAttr,-Int.reduceNatCast',tysA,i64]
 refine loop_rule (fun m e s=>∃i:Nat,m=min l.length most.toNat - i∧i≤min l.length most.toNat∧e 0=.d (intsD l)∧e 1=i64 most∧e 6=i64 i∧Acc [] 1 (e 5) s (((List.range i).map fun i:Nat=>textSyms.getD (pick l i 12).toNat 0).map fun x=>[iD x]))
  ⟨_,_,_,Cln.refl,0,rfl,by omega,rfl,rfl,rfl,.inl ⟨rfl,rfl⟩⟩ ?_
 rintro m e s ⟨i,rfl,hi,h0,h1,h6,hacc⟩
 have hp:=pick_ok l hl i 12 (by omega)
 have hpr:=pick_range l i 12 (by omega)
 simp only[i64] at hp
 by_cases c1:(i:Int) < l.length
 case neg =>
  have hie:i=min l.length most.toNat:=by omega
  simp only[vsL,vsB,vsC,simprocAttr,-Int.reduceNatCast',tysA,i64,intsD,h0,h1,h6,c1,List.length_map]
  rw[hacc.frz (by simp)]
  subst hie
  simp only[textR,intsD]
 by_cases c2:(i:Int) < most
 case neg =>
  have hie:i=min l.length most.toNat:=by omega
  simp only[vsL,vsB,vsC,simprocAttr,-Int.reduceNatCast',tysA,i64,intsD,h0,h1,h6,c1,c2,List.length_map]
  rw[hacc.frz (by simp)]
  subst hie
  simp only[textR,intsD]
 simp only[vsL,vsB,vsC,simprocAttr,-Int.reduceNatCast',tysA,i64,h0,h1,h6,c1,c2]
 refine call_pure hp rfl rfl ?_
 have hcases:pick l i 12=0∨pick l i 12=1∨pick l i 12=2∨pick l i 12=3∨pick l i 12=4∨pick l i 12=5∨pick l i 12=6∨pick l i 12=7∨pick l i 12=8∨pick l i 12=9∨pick l i 12=10∨pick l i 12=11:=by omega
 have go:∀(z:Int),textSyms.getD (pick l i 12).toNat 0=z→∀(v':V) (s':List VL.Obj),Acc [] 1 v' s' (((List.range i).map fun i:Nat=>textSyms.getD (pick l i 12).toNat 0).map (fun x=>[iD x])++[[iD z]])→Acc [] 1 v' s' (((List.range (i + 1)).map fun i:Nat=>textSyms.getD (pick l i 12).toNat 0).map fun x=>[iD x]):=by
  intro z hz v' s' h
  rw[List.range_succ,List.map_append,List.map_append,List.map_cons,List.map_nil,hz]
  exact h
 rcases hcases with q | q | q | q | q | q | q | q | q | q | q | q
 all_goals
  rw[q] at go ⊢
  simp only[vsL,vsB,vsC,simprocAttr,-Int.reduceNatCast',tysA,i64,h0,h1,h6,Int.toNat_zero,Int.toNat_one]
  refine⟨by omega,?_⟩
  refine hacc.append slTy22 rfl (by decide) (by decide) (by intro y hy; obtain⟨z,_,rfl⟩:=List.mem_map.1 hy; rfl) (by simp) (by simp) (by simp only[List.length_map,List.length_range,List.length_cons,List.length_nil]; omega) (fun v' s' hacc'=>?_)
  simp only[vsL,vsB,vsC,simprocAttr,-Int.reduceNatCast',tysA,i64,h0,h1,h6]
  refine⟨min l.length most.toNat - (i + 1),_,_,by omega,Cln.refl,i + 1,rfl,by omega,?_,?_,?_,?_⟩ <;> (try simp only[zU,Nat.reduceBEq,Nat.reduceShiftRight,Nat.reduceMod,Nat.reduceEqDiff,reduceIte])
  ·exact h0
  ·exact h1
  ·rw[w64 _ (by omega)]; rfl
  ·exact go _ rfl _ _ hacc'
noncomputable def goodAt (p:Pat) (t:List Int) (n:Nat) (fuel:Int) (i:Nat):Bool:=decide (allE p (t.take n) i (-1) fuel=0)
noncomputable def fitsFrom (p:Pat) (t:List Int) (fuel:Int):Nat→Pat × List Int
 | 0=>(⟨.mk 0 [] [] 0 0 0 0 false,p.caps,false⟩,[])
 | n + 1=>if (List.range (n + 1)).all (goodAt p t n fuel)=true then (p,t.take n) else fitsFrom p t fuel n
theorem all_range_succ (f:Nat→Bool) (n:Nat):(List.range (n + 1)).all f=((List.range n).all f&&f n):=by
 rw[List.range_succ,List.all_append]; simp
def fitsS (p:Pat):List VL.Obj:=[⟨0,true,10,[[i64 0,.fu [],.fu [],i64 0,i64 0,i64 0,i64 0,bV false,i64 0,bV false]]⟩,⟨0,true,10,[p.re.cells.map V.d++[i64 p.caps,bV p.runes]]⟩]
theorem fits_ok (l m:List Int) (hl:∀x∈l,I64 x) (hm:∀x∈m,I64 x) (uses most fuel:Int) (h0:0≤most) (h1:most≤100) :
  PureOK prog 21 [.d (intsD l),.d (intsD m),i64 uses,i64 most,i64 fuel]
   (.tu [patV (fitsFrom (patOf l uses most) (textR m 12) fuel ((textR m 12).length + 1)).1,.d (intsD (fitsFrom (patOf l uses most) (textR m 12) fuel ((textR m 12).length + 1)).2)]):=by
 have hpat:=pattern_ok l uses most hl h0 (by omega)
 have htx:=text_ok m hm 12 (by omega)
 obtain⟨hv,hsz⟩:=pat_valid l uses most hl h0 h1
 have hsm:=pat_small l uses most hl h0 h1
 have hfine:(patOf l uses most).re.fine=true:=small_fine (by omega) _ hsm.ev
 have htl:(textR m 12).length≤12:=by simp [textR]; omega
 generalize patOf l uses most=p at *
 generalize textR m 12=t at *
 have hall:=fun (n i:Nat)=>refAll_ok p (t.take n) i (-1) fuel hfine (by omega) (by rw[List.length_take]; omega)
 generalize hR:fitsFrom p t fuel (t.length + 1)=R
 have hpc:=Re.cells_eq p.re
 simp only[patV,Re.cells_eq p.re,List.map_cons,List.map_nil,List.cons_append,List.nil_append,i64,iD,bD,bV] at hpat hall
 simp only[i64] at htx
 refine fn_ok func21 rfl ntmps21 results21 rfl 0 654367 (by simp) (by simp) ?_
 simp only[zX,simprocAttr,-Int.reduceNatCast',i64]
 refine call_pure hpat (by simp [refsV,refsV.go,reV_eq,i64,bV,reEl]) (by simp [refsV,refsV.go,reV_eq,i64,bV,reEl]) ?_
 simp only[zX,simprocAttr,-Int.reduceNatCast',i64]
 refine call_pure htx (by simp [refsV,refsV.go,reV_eq,i64,bV,reEl]) (by simp [refsV,refsV.go,reV_eq,i64,bV,reEl]) ?_
 simp only[zX,simprocAttr,-Int.reduceNatCast',i64,intsD,List.length_map]
 refine loop_rule (fun N e s=>e 4=i64 fuel∧e 10=.rf 0 0 0 0∧e 12=.rf 1 0 0 0∧e 13=.d (intsD t)∧e 14=i64 ((N:Int) - 1)∧N≤t.length + 1∧fitsFrom p t fuel N=R∧s=fitsS p)
  ⟨t.length + 1,_,_,Cln.refl,rfl,rfl,rfl,rfl,?_,Nat.le_refl _,hR,?_⟩ ?_
 ·show i64 _=i64 _
  congr 1
  omega
 ·unfold fitsS
  rw[Re.cells_eq]
  rfl
 clear hpat htx hR
 rintro N e s ⟨h4,h10,h12,h13,h14,hN,hR,rfl⟩
 cases N with
 | zero =>
  unfold fitsS
  rw[Re.cells_eq]
  simp only[zX,simprocAttr,-Int.reduceNatCast',i64,h4,h10,h12,h13,h14,bD,iD,Int.natCast_zero,Int.zero_sub]
  subst hR
  simp only[fitsFrom,patV,Re.cells]
  rfl
 | succ n =>
  have e14:((n + 1:Nat):Int) - 1=n:=by omega
  rw[e14] at h14
  have hn0:(0:Int)≤n:=by omega
  unfold fitsS
  rw[Re.cells_eq]
  simp only[zX,simprocAttr,-Int.reduceNatCast',i64,h4,h10,h12,h13,h14,bD,iD,hn0,ge_iff_le]
  refine loop_rule (fun M e s=>∃i:Nat,M=n + 1 - i∧i≤n + 1∧e 4=i64 fuel∧e 10=.rf 0 0 0 0∧e 12=.rf 1 0 0 0∧e 13=.d (intsD t)∧e 14=i64 n∧e 15=bV ((List.range i).all (goodAt p t n fuel))∧e 16=i64 i∧s=fitsS p)
   ⟨_,_,_,Cln.refl,0,rfl,by omega,?_,?_,?_,?_,?_,rfl,rfl,?_⟩ ?_ <;> (try simp only[zU,Nat.reduceBEq,Nat.reduceShiftRight,Nat.reduceMod,Nat.reduceEqDiff,reduceIte])
  ·exact h4
  ·exact h10
  ·exact h12
  ·exact h13
  ·exact h14
  ·unfold fitsS; rw[Re.cells_eq]; rfl
  rintro M e s ⟨i,rfl,hi,h4,h10,h12,h13,h14,h15,h16,rfl⟩
  have bad:(List.range (n + 1)).all (goodAt p t n fuel)=false→fitsFrom p t fuel n=R:=by
   intro h; rw[fitsFrom,h] at hR; exact hR
  by_cases hin:(i:Int)≤n
  ·cases hg:(List.range i).all (goodAt p t n fuel) with
   | false =>
    rw[hg] at h15
    unfold fitsS
    rw[Re.cells_eq]
    simp only[zX,simprocAttr,-Int.reduceNatCast',i64,h4,h10,h12,h13,h14,h15,h16,bD,iD,hin,bV]
    refine⟨n,_,_,by omega,Cln.refl,?_,?_,?_,?_,?_,by omega,bad ?_,?_⟩ <;> (try simp only[zU,Nat.reduceBEq,Nat.reduceShiftRight,Nat.reduceMod,Nat.reduceEqDiff,reduceIte])
    ·exact h4
    ·exact h10
    ·exact h12
    ·exact h13
    ·rw[w64 _ (by omega)]
    ·rw[Bool.eq_false_iff] at hg ⊢
     intro h
     apply hg
     rw[List.all_eq_true] at h ⊢
     exact fun x hx=>h x (List.mem_range.2 (by have:=List.mem_range.1 hx; omega))
   | true =>
    rw[hg] at h15
    have hcall:=hall n i
    have hn1:n≤t.length:=by omega
    unfold fitsS
    rw[Re.cells_eq]
    simp only[zX,simprocAttr,-Int.reduceNatCast',i64,h4,h10,h12,h13,h14,h15,h16,bD,iD,hin,bV]
    refine draw_c mix [] [] (by rfl) ?_
    simp only[zX,simprocAttr,-Int.reduceNatCast',i64,h4,h10,h12,h13,h14,h15,h16,bD,iD,intsD,List.length_map,hn0,hn1]
    refine⟨by omega,?_⟩
    have htk:List.take ((n:Int) - 0).toNat (List.map (fun x=>[D.sc (.int .i64 x)]) t)=(t.take n).map (fun x=>[D.sc (.int .i64 x)]):=by
     rw[← List.map_take]; congr 2
    rw[htk]
    simp only[intsD,iD] at hcall
    refine callC_pure hcall (by simp [refsV,refsV.go,reV_eq,i64,bV,reEl]) (by simp [refsV,refsV.go,reV_eq,i64,bV,reEl]) ?_
    simp only[zX,simprocAttr,-Int.reduceNatCast',i64,h4,h10,h12,h13,h14,h15,h16,bD,iD,intsD,List.length_map,hn0,hn1]
    refine⟨n + 1 - (i + 1),_,_,by omega,Cln.refl,i + 1,rfl,by omega,?_,?_,?_,?_,?_,?_,?_,?_⟩ <;> (try simp only[zU,Nat.reduceBEq,Nat.reduceShiftRight,Nat.reduceMod,Nat.reduceEqDiff,reduceIte])
    ·exact h4
    ·exact h10
    ·exact h12
    ·exact h13
    ·exact h14
    ·rw[all_range_succ,hg,Bool.true_and]; rfl
    ·rw[w64 _ (by omega)]; rfl
  ·have hie:i=n + 1:=by omega
   subst hie
   cases hg:(List.range (n + 1)).all (goodAt p t n fuel) with
   | false =>
    rw[hg] at h15
    unfold fitsS
    rw[Re.cells_eq]
    simp only[zX,simprocAttr,-Int.reduceNatCast',i64,h4,h10,h12,h13,h14,h15,h16,bD,iD,hin,bV]
    refine⟨n,_,_,by omega,Cln.refl,?_,?_,?_,?_,?_,by omega,bad hg,?_⟩ <;> (try simp only[zU,Nat.reduceBEq,Nat.reduceShiftRight,Nat.reduceMod,Nat.reduceEqDiff,reduceIte])
    ·exact h4
    ·exact h10
    ·exact h12
    ·exact h13
    ·rw[w64 _ (by omega)]
   | true =>
    rw[hg] at h15
    rw[fitsFrom,hg,if_pos rfl] at hR
    subst hR
    unfold fitsS
    rw[Re.cells_eq]
    have hn1:n≤t.length:=by omega
    simp only[zX,simprocAttr,-Int.reduceNatCast',i64,h4,h10,h12,h13,h14,h15,h16,bD,iD,hin,bV]
    refine draw_c mix [] [(0,[1],[]),(4,[0],[0])] (by rfl) ?_
    simp only[zX,simprocAttr,-Int.reduceNatCast',i64,h4,h10,h12,h13,h14,h15,h16,bD,iD,intsD,List.length_map,hn0,hn1]
    refine⟨by omega,?_⟩
    have htk:List.take ((n:Int) - 0).toNat (List.map (fun x=>[D.sc (.int .i64 x)]) t)=(t.take n).map (fun x=>[D.sc (.int .i64 x)]):=by
     rw[← List.map_take]; congr 2
    rw[htk,patV,Re.cells_eq]
    rfl
end Go.Proofs.Ytllagoeijcjpiaa
