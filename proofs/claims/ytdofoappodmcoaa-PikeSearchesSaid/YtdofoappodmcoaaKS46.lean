/- A part of the proof (K64). -/
import Derived.Test.YtdofoappodmcoaaKS45
set_option linter.unusedSimpArgs false
set_option linter.unusedVariables false
set_option maxRecDepth 100000
set_option maxHeartbeats 80000000
namespace Go.Proofs.Ytdofoappodmcoaa
open Go.VL Go.Proofs.Try
theorem First11_ok (g : Prg) (hs : g.ins.length≤1000000000) (hl : ∀ x ∈ g.ins,x.set.length≤1000000000) (t : List Int) (ht : t.length≤1000000000) (at_ : Int) : PureOK prog 24 [prgV g,.d (intsD t),i64 at_] (.tu [(optM (firstE g t at_).1).v,bV (firstE g t at_).1.isSome,i64 (firstE g t at_).2]) := by
 have hck := check11_ok g hs hl t ht at_
 unfold firstE
 by_cases hc : chkE g t at_=0
 rotate_left
 ·rw [if_neg hc]
  generalize chkE g t at_=E at *
  simp only [prgV_eq,i64,iD,bD] at hck
  refine fn_ok func24 rfl ntmps24 results24 rfl 0 8143 (by simp) (by simp) ?_
  simp only [zX,simprocAttr,i64,bV,iD,bD,prgV_eq]
  refine call_pure hck rfl rfl ?_
  simp only [zX,simprocAttr,i64,bV,iD,bD,Mat.v,hc,ne_eq,not_false_eq_true]
  rfl
 ·obtain ⟨hg,ht2,h0,h1⟩ := chkE_ok hc
  rw [if_pos hc]
  rw [hc] at hck
  have hrun := fun s h0 h1=>run11_ok g hg t ht2 s h0 h1
  simp only [prgV_eq,i64,iD,bD,bV,Mat.v] at hck hrun
  obtain ⟨R,hR⟩ : ∃ R,R=firstG g t ((t.length : Int) - at_ + 1).toNat at_ := ⟨_,rfl⟩
  rw [← hR]
  refine fn_ok func24 rfl ntmps24 results24 rfl 0 8143 (by simp) (by simp) ?_
  simp only [zX,simprocAttr,i64,bV,iD,bD,prgV_eq]
  refine call_pure hck rfl rfl ?_
  simp only [zX,simprocAttr,i64,bV,iD,bD,prgV_eq,ne_eq,not_true_eq_false]
  refine loop_rule (fun n e s=>∃ a : Int,n=((t.length : Int) - a + 1).toNat∧0≤a∧a≤t.length + 1∧R=firstG g t ((t.length : Int) - a + 1).toNat a∧e 1=.d (intsD t)∧e 3=.rf 0 0 0 0∧e 6=.rf 1 0 0 0∧e 10=i64 a∧s=[boxP g,zeroMO])
   ⟨_,_,_,Cln.refl,at_,rfl,h0,by omega,hR,rfl,rfl,rfl,rfl,rfl⟩ ?_
  clear hR hck hc h0 h1
  rintro n e s ⟨a,rfl,h0,h1,hR,h1',h3,h6,h10,rfl⟩
  by_cases hle : a≤(t.length : Int)
  ·have hr := hrun a h0 hle
   obtain ⟨j,hj⟩ : ∃ j,((t.length : Int) - a + 1).toNat=j + 1 := ⟨((t.length : Int) - a + 1).toNat - 1,by omega⟩
   rw [hj,firstG] at hR
   simp only [zX,simprocAttr,i64,bV,iD,bD,prgV_eq,boxP,zeroMO,intsD,h1',h3,h6,h10,hle,List.length_map]
   refine call_pure hr rfl rfl ?_
   cases hq : run0 g t a with
   | some m =>
    rw [hq] at hR
    simp only at hR
    subst hR
    simp only [zX,simprocAttr,i64,bV,iD,bD,h1',h3,h6,h10,hq,optM,Option.getD_some,Option.isSome_some,Mat.v,Value.oneCell']
   | none =>
    rw [hq] at hR
    simp only at hR
    simp only [zX,simprocAttr,i64,bV,iD,bD,h1',h3,h6,h10,hq,optM,Option.getD_none,Option.isSome_none,Mat.v,Value.oneCell',capD,List.map_nil]
    refine ⟨j,_,_,by omega,Cln.cut (s' := [boxP g,zeroMO]) 2 (by omega) ?_ ?_ [1,3,6,10] ?_,a + 1,by omega,by omega,by omega,?_,?_,?_,?_,?_,rfl⟩ <;> (try simp only [zU,Nat.reduceBEq,Nat.reduceShiftRight,Nat.reduceMod,Nat.reduceEqDiff,reduceIte])
    ·simp [boxP,zeroMO,i64,bV]
    ·simp [objOk,boxP,zeroMO,refsV,i64,bV]
    ·simp [updE,trimE_app,refsV,h1',h3,h6,h10,i64]
    ·rw [hR]; congr 1; omega
    ·exact h1'
    ·exact h3
    ·exact h6
    ·rw [w64 _ (by omega)]
  ·have hj : ((t.length : Int) - a + 1).toNat=0 := by omega
   rw [hj,firstG] at hR
   subst hR
   simp only [zX,simprocAttr,i64,bV,iD,bD,prgV_eq,boxP,zeroMO,intsD,h1',h3,h6,h10,hle,List.length_map,optM,Option.getD_none,Option.isSome_none,Mat.v,capD,List.map_nil]
theorem Every11_ok (g : Prg) (hs : g.ins.length≤1000000000) (hl : ∀ x ∈ g.ins,x.set.length≤1000000000) (t : List Int) (ht : t.length≤1000000000) : PureOK prog 21 [prgV g,.d (intsD t)] (.tu [.d (.sl ((everyE g t).1.map matK)),i64 (everyE g t).2]) := by
 have hck := check11_ok g hs hl t ht 0
 unfold everyE
 by_cases hc : chkE g t 0=0
 rotate_left
 ·rw [if_neg hc]
  generalize chkE g t 0=E at *
  simp only [prgV_eq,i64,iD,bD] at hck
  refine fn_ok func21 rfl ntmps21 results21 rfl 0 2039 (by simp) (by simp) ?_
  simp only [zX,simprocAttr,i64,bV,iD,bD,prgV_eq]
  refine call_pure hck rfl rfl ?_
  simp only [zX,simprocAttr,i64,bV,iD,bD,Mat.v,hc,ne_eq,not_false_eq_true,List.map_nil]
 ·obtain ⟨hg,ht2,_,_⟩ := chkE_ok hc
  rw [if_pos hc]
  rw [hc] at hck
  have hrun := fun s h0 h1=>run11_ok g hg t ht2 s h0 h1
  simp only [prgV_eq,i64,iD,bD,bV,Mat.v] at hck hrun
  refine fn_ok func21 rfl ntmps21 results21 rfl 0 2039 (by simp) (by simp) ?_
  simp only [zX,simprocAttr,i64,bV,iD,bD,prgV_eq]
  refine call_pure hck rfl rfl ?_
  simp only [zX,simprocAttr,i64,bV,iD,bD,prgV_eq,ne_eq,not_true_eq_false]
  refine loop_rule (fun n e s=>∃ i : Nat,n=t.length + 1 - i∧i≤t.length + 1∧e 1=.d (intsD t)∧e 2=.rf 0 0 0 0∧e 7=.so 1 (allR g t i).length 0 (allR g t i).length∧e 8=i64 i∧s=[boxP g,arrM (allR g t i)])
   ⟨_,_,_,.of0 (reserveSlot 7 3 rfl),0,rfl,by omega,rfl,rfl,rfl,rfl,by simp [boxP,i64,bV,arrM,allR]⟩ ?_
  rintro n e s ⟨i,rfl,hi,h1,h2,h7,h8,rfl⟩
  rcases Nat.lt_or_ge i (t.length + 1) with hlt | hge
  ·have hlt' : (i : Int)≤(t.length : Int) := by omega
   have hal := allR_len g t i
   have has := allR_succ g t i
   have hr := hrun i (by omega) hlt'
   unfold resAt at has
   generalize run0 g t i=R at *
   generalize hA : allR g t i=A at *
   simp only [zX,simprocAttr,i64,bV,iD,bD,boxP,intsD,h1,h2,h7,h8,hlt',List.length_map]
   refine call_pure hr rfl rfl ?_
   cases R with
   | none =>
    simp only [zX,simprocAttr,i64,bV,iD,bD,h1,h2,h7,h8,optM,Option.getD_none,Option.isSome_none]
    refine ⟨t.length + 1 - (i + 1),_,_,by omega,Cln.cut (s' := [boxP g,arrM A]) 2 (by omega) ?_ ?_ [1,2,7,8] ?_,i + 1,rfl,by omega,?_,?_,?_,?_,?_⟩ <;> (try simp only [zU,Nat.reduceBEq,Nat.reduceShiftRight,Nat.reduceMod,Nat.reduceEqDiff,reduceIte])
    ·simp [boxP,i64,bV]
    ·simp only [List.all_cons,List.all_nil,boxP_ok',arrM_ok,Bool.and_true]
    ·simp [updE,trimE_app,refsV,h1,h2,h7,h8,i64]
    ·exact h1
    ·exact h2
    ·rw [has]; simpa using h7
    ·rw [w64 _ (by omega)]; rfl
    ·rw [has]; simp [boxP,i64,bV]
   | some m =>
    have hgA : (arrM A).g=A.length := rfl
    have hzA : (arrM A).sz=3 := rfl
    have heA : (arrM A).els=(A.map matK).map fun c=>c.map V.d := rfl
    have hlA : (arrM A).live=true := rfl
    have has2 : allR g t (i + 1)=A ++ [m] := by rw [has]; rfl
    simp only [zX,simprocAttr,i64,bV,iD,bD,h1,h2,h7,h8,optM,Option.getD_some,Option.isSome_some,hgA,hzA,heA,hlA,List.length_map,Nat.zero_add]
    refine ⟨fun e he=>by rw [List.mem_singleton.1 he]; rfl,⟨Nat.le_refl _,by omega⟩,t.length + 1 - (i + 1),_,_,by omega,Cln.cut (s' := [boxP g,arrM (A ++ [m])]) 2 (by omega) ?_ ?_ [1,2,7,8] ?_,i + 1,rfl,by omega,?_,?_,?_,?_,?_⟩ <;> (try simp only [zU,Nat.reduceBEq,Nat.reduceShiftRight,Nat.reduceMod,Nat.reduceEqDiff,reduceIte])
    ·simp only [List.take_succ_cons,List.take_zero,arrM]
     rw [List.take_of_length_le (by simp)]
     simp [matK,iD,boxP,i64,bV]
    ·simp only [List.all_cons,List.all_nil,boxP_ok',arrM_ok,Bool.and_true]
    ·simp [updE,trimE_app,refsV,h1,h2,i64]
    ·exact h1
    ·exact h2
    ·rw [has2]; simp
    ·rw [w64 _ (by omega)]; rfl
    ·rw [has2]; simp [boxP,i64,bV]
  ·have hie : i=t.length + 1 := by omega
   subst hie
   have hlt' : ¬ ((t.length + 1 : Nat) : Int)≤(t.length : Int) := by omega
   generalize allR g t (t.length + 1)=A at *
   have hgA : (arrM A).g=A.length := rfl
   have hzA : (arrM A).sz=3 := rfl
   have heA : (arrM A).els=(A.map matK).map fun c=>c.map V.d := rfl
   simp only [zX,simprocAttr,i64,bV,iD,bD,boxP,intsD,h1,h2,h7,h8,hlt',hgA,hzA,heA,List.length_map]
   rw [frz_data 7 0 _ _ _ (by simp),if_pos (by omega)]
   rfl
theorem equalsK (L : List Mat) (hL : L.length≤1000000000) (hc : ∀ m ∈ L,m.c.length≤1000000000) : PureOK prog 22 [.d (.sl (L.map matK)),.d (.sl (L.map matK))] (bV true) := by
 refine fn_ok func22 rfl ntmps22 results22 rfl 0 51 (by simp) (by simp) ?_
 simp only [zX,simprocAttr,i64,bV,iD,List.length_map,ne_eq,not_true_eq_false]
 refine loop_rule (fun n e s=>∃ i : Nat,n=L.length - i∧i≤L.length∧e 0=.d (.sl (L.map matK))∧e 1=.d (.sl (L.map matK))∧e 5=i64 i∧s=[])
  ⟨_,_,_,Cln.refl,0,rfl,by omega,rfl,rfl,rfl,rfl⟩ ?_
 rintro n e s ⟨i,rfl,hi,h0,h1,h5,rfl⟩
 rcases Nat.lt_or_ge i L.length with hlt | hge
 ·obtain ⟨x,hx⟩ : ∃ x,L[i]?=some x := ⟨_,List.getElem?_eq_getElem hlt⟩
  have hlt' : (i : Int) < L.length := by omega
  have l0 : (0 : Int)≤(i : Int) := by omega
  have heq := equal_ok x x (hc x (List.mem_of_getElem? hx))
  simp only [decide_true,Mat.v,i64,bV] at heq
  simp only [zX,simprocAttr,i64,bV,iD,h0,h1,h5,List.length_map,hlt']
  refine draw_c mix [] [] (by rfl) ?_
  simp only [zX,simprocAttr,i64,bV,iD,h0,h1,h5,List.length_map,hlt',hlt,l0,Int.toNat_natCast,hx,matK]
  refine callC_pure heq rfl rfl ?_
  simp only [zX,simprocAttr,i64,bV,iD,h0,h1,h5,List.length_map,Bool.not_true]
  refine ⟨L.length - (i + 1),_,_,by omega,Cln.refl,i + 1,rfl,hlt,?_,?_,?_,rfl⟩ <;> (try simp only [zU,Nat.reduceBEq,Nat.reduceShiftRight,Nat.reduceMod,Nat.reduceEqDiff,reduceIte])
  ·exact h0
  ·exact h1
  ·rw [w64 _ (by omega)]; rfl
 ·have hie : i=L.length := by omega
  subst hie
  have hlt' : ¬ (L.length : Int) < L.length := by omega
  simp only [zX,simprocAttr,i64,bV,iD,h0,h1,h5,List.length_map,hlt']
end Go.Proofs.Ytdofoappodmcoaa
