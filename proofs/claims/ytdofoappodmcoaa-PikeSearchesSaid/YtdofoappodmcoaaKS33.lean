/- A part of the proof (K24 K25 K26). -/
import Derived.Test.YtdofoappodmcoaaKS22
import Derived.Test.YtdofoappodmcoaaKS32
import Derived.Test.YtdofoappodmcoaaKS30
set_option linter.unusedSimpArgs false
set_option linter.unusedVariables false
set_option maxRecDepth 100000
set_option maxHeartbeats 80000000
namespace Go.Proofs.Ytdofoappodmcoaa
open Go.VL Go.Proofs.Try
def pairAt (regs : List Int) (j : Nat) : Int × Int :=
 if regs.getD (2 * j) 0=-1 ∨ regs.getD (2 * j + 1) 0=-1 then (-1,-1) else (regs.getD (2 * j) 0,regs.getD (2 * j + 1) 0)
def capsOf (c : Nat) (regs : List Int) : CapsL := (List.range c).map (pairAt regs)
theorem getD_get {l : List Int} {i : Nat} (h : i < l.length) : l[i]?=some (l.getD i 0) := by
 rw [List.getD,List.getElem?_eq_getElem h]; rfl
def matB (st en : Int) (v : V) : VL.Obj := ⟨0,true,3,[[i64 st,i64 en,v]]⟩
def zeroMO : VL.Obj := ⟨0,true,3,[[i64 0,i64 0,.fu []]]⟩
def capA (g : Nat) (c : CapsL) : VL.Obj := ⟨g,true,2,(c.map spanC).map fun x=>x.map V.d⟩
theorem capA_ok (n g : Nat) (c : CapsL) : objOk n (capA g c)=true := by
 unfold objOk capA
 rw [List.all_eq_true]
 intro e he
 obtain ⟨x,hx,rfl⟩ := List.mem_map.1 he
 rw [List.all_eq_true]
 intro y hy
 obtain ⟨d,_,rfl⟩ := List.mem_map.1 hy
 rfl
theorem result11_ok (c : Nat) (hc : c≤100) (st en : Int) (regs : List Int) (hr : regs.length=2 * c) : PureOK prog 67 [i64 st,i64 en,.d (intsD regs)] (.ag [i64 st,i64 en,.d (capD (capsOf c regs))]) := by
 refine fn_ok func67 rfl ntmps67 results67 rfl 0 967 (by simp) (by simp) ?_
 simp only [zX,simprocAttr,i64,bV,iD,bD,intsD]
 refine loop_rule (fun n e s=>∃ j gg : Nat,n=c - j∧j≤c∧e 2=.d (intsD regs)∧e 6=.rf 0 0 0 0∧e 7=.rf 1 0 0 0∧e 8=i64 (2 * j : Nat)∧s=[zeroMO,matB st en (.so 2 gg 0 j),capA gg ((List.range j).map (pairAt regs))])
  ⟨_,_,_,.of0 (reserveCell (pre := [.d (.sc (.int .i64 st)),.d (.sc (.int .i64 en))]) (post := []) 1 2 rfl rfl rfl),0,0,rfl,by omega,rfl,rfl,rfl,rfl,by simp [zeroMO,matB,capA,i64]⟩ ?_
 rintro n e s ⟨j,gg,rfl,hj,h2,h6,h7,h8,rfl⟩
 have w1 : IntKind.i64.wrap (((2 * j : Nat) : Int) + 1)=((2 * j + 1 : Nat) : Int) := by rw [w64 _ (by omega)]; omega
 have w2 : IntKind.i64.wrap (((2 * j : Nat) : Int) + 2)=((2 * (j + 1) : Nat) : Int) := by rw [w64 _ (by omega)]; omega
 simp only [intsD] at h2
 rcases Nat.lt_or_ge j c with hlt | hge
 ·have c1 : ((2 * j + 1 : Nat) : Int) < (regs.length : Int) := by omega
  have c2 : ((2 * j : Nat) : Int) < (regs.length : Int) := by omega
  have c3 : (0 : Int)≤((2 * j : Nat) : Int) := by omega
  have c4 : (0 : Int)≤((2 * j + 1 : Nat) : Int) := by omega
  have g1 := getD_get (l := regs) (i := 2 * j) (by omega)
  have g2 := getD_get (l := regs) (i := 2 * j + 1) (by omega)
  have hP : pairAt regs j=if regs.getD (2 * j) 0=-1 ∨ regs.getD (2 * j + 1) 0=-1 then (-1,-1) else (regs.getD (2 * j) 0,regs.getD (2 * j + 1) 0) := rfl
  generalize regs.getD (2 * j) 0=a at *
  generalize regs.getD (2 * j + 1) 0=b at *
  have k02 : (0 : Int) < ((2 : Nat) : Int) := by decide
  have k12 : (1 : Int) < ((2 : Nat) : Int) := by decide
  by_cases ha : a=-1
  ·have ha' := eq_true ha
   have hb' : True := trivial
   have hb : True := trivial
   simp only [zX,simprocAttr,i64,bV,iD,zeroMO,matB,capA,h2,h6,h7,h8,w1,c1,List.length_map]
   refine draw_first Cln0.reserve ?_
   refine draw_c mix [] [(10,[3],[3]),(11,[3],[3])] (by rfl) ?_
   simp only [zX,simprocAttr,i64,bV,iD,zeroMO,matB,capA,h2,h6,h7,h8,w1,c1,c2,c3,c4,g1,g2,hole,k02,k12,ha',hb']
   refine ⟨fun e he=>by rw [List.mem_singleton.1 he]; rfl,⟨by simp,by omega⟩,c - (j + 1),_,_,by omega,Cln.cut (s' := [zeroMO,matB st en (.so 2 (gg + 1) 0 (j + 1)),capA (gg + 1) ((List.range (j + 1)).map (pairAt regs))]) 3 (by omega) ?_ (by simp only [List.all_cons,List.all_nil,capA_ok,Bool.and_true]; simp [zeroMO,matB,objOk,refsV,i64]) [2,6,7,8] ?_,j + 1,gg + 1,rfl,hlt,?_,?_,?_,?_,rfl⟩ <;> (try simp only [zU,Nat.reduceBEq,Nat.reduceShiftRight,Nat.reduceMod,Nat.reduceEqDiff,reduceIte])
   ·simp only [List.take_succ_cons,List.take_zero]
    rw [List.take_of_length_le (by simp),List.range_succ,List.map_append]
    simp [zeroMO,matB,capA,i64,iD,spanC,hP,ha,hb]
   ·simp [updE,trimE_app,refsV,h2,h6,h7,i64]
   ·exact h2
   ·exact h6
   ·exact h7
   ·rw [w2]
  ·have ha' := ha
   by_cases hb : b=-1
   ·have hb' := eq_true hb
    simp only [zX,simprocAttr,i64,bV,iD,zeroMO,matB,capA,h2,h6,h7,h8,w1,c1,List.length_map]
    refine draw_first Cln0.reserve ?_
    refine draw_c mix [] [(10,[3],[3]),(11,[3],[3])] (by rfl) ?_
    simp only [zX,simprocAttr,i64,bV,iD,zeroMO,matB,capA,h2,h6,h7,h8,w1,c1,c2,c3,c4,g1,g2,hole,k02,k12,ha',hb']
    refine ⟨fun e he=>by rw [List.mem_singleton.1 he]; rfl,⟨by simp,by omega⟩,c - (j + 1),_,_,by omega,Cln.cut (s' := [zeroMO,matB st en (.so 2 (gg + 1) 0 (j + 1)),capA (gg + 1) ((List.range (j + 1)).map (pairAt regs))]) 3 (by omega) ?_ (by simp only [List.all_cons,List.all_nil,capA_ok,Bool.and_true]; simp [zeroMO,matB,objOk,refsV,i64]) [2,6,7,8] ?_,j + 1,gg + 1,rfl,hlt,?_,?_,?_,?_,rfl⟩ <;> (try simp only [zU,Nat.reduceBEq,Nat.reduceShiftRight,Nat.reduceMod,Nat.reduceEqDiff,reduceIte])
    ·simp only [List.take_succ_cons,List.take_zero]
     rw [List.take_of_length_le (by simp),List.range_succ,List.map_append]
     simp [zeroMO,matB,capA,i64,iD,spanC,hP,ha,hb]
    ·simp [updE,trimE_app,refsV,h2,h6,h7,i64]
    ·exact h2
    ·exact h6
    ·exact h7
    ·rw [w2]
   ·have hb' := hb
    simp only [zX,simprocAttr,i64,bV,iD,zeroMO,matB,capA,h2,h6,h7,h8,w1,c1,List.length_map]
    refine draw_first Cln0.reserve ?_
    refine draw_c mix [] [(10,[3],[3]),(11,[3],[3])] (by rfl) ?_
    simp only [zX,simprocAttr,i64,bV,iD,zeroMO,matB,capA,h2,h6,h7,h8,w1,c1,c2,c3,c4,g1,g2,hole,k02,k12,ha',hb']
    refine ⟨fun e he=>by rw [List.mem_singleton.1 he]; rfl,⟨by simp,by omega⟩,c - (j + 1),_,_,by omega,Cln.cut (s' := [zeroMO,matB st en (.so 2 (gg + 1) 0 (j + 1)),capA (gg + 1) ((List.range (j + 1)).map (pairAt regs))]) 3 (by omega) ?_ (by simp only [List.all_cons,List.all_nil,capA_ok,Bool.and_true]; simp [zeroMO,matB,objOk,refsV,i64]) [2,6,7,8] ?_,j + 1,gg + 1,rfl,hlt,?_,?_,?_,?_,rfl⟩ <;> (try simp only [zU,Nat.reduceBEq,Nat.reduceShiftRight,Nat.reduceMod,Nat.reduceEqDiff,reduceIte])
    ·simp only [List.take_succ_cons,List.take_zero]
     rw [List.take_of_length_le (by simp),List.range_succ,List.map_append]
     simp [zeroMO,matB,capA,i64,iD,spanC,hP,ha,hb]
    ·simp [updE,trimE_app,refsV,h2,h6,h7,i64]
    ·exact h2
    ·exact h6
    ·exact h7
    ·rw [w2]
 ·have hje : j=c := by omega
  subst hje
  have c1 : ¬ ((2 * j + 1 : Nat) : Int) < (regs.length : Int) := by omega
  simp only [zX,simprocAttr,i64,bV,iD,zeroMO,matB,capA,h2,h6,h7,h8,w1,c1,List.length_map]
  rw [frz_data 7 0 _ _ _ (by simp),if_pos (by simp)]
  rfl
theorem good_of {g : Prg} (h : prgE g=0) : g.good := by
 unfold prgE at h
 by_cases c1 : 8192 < g.ins.length
 ·rw [if_pos c1] at h; omega
 rw [if_neg c1] at h
 by_cases c2 : g.ins.length=0 ∨ g.caps < 0 ∨ 9 < g.caps
 ·rw [if_pos c2] at h; omega
 rw [if_neg c2] at h
 have c3 : g.ins.all (insB g.ins.length g.caps g.runes)=true := by
  cases hc : g.ins.all (insB g.ins.length g.caps g.runes) with
  | true=>rfl
  | false=>rw [if_neg (by rw [hc]; simp)] at h; omega
 rw [if_pos c3] at h
 by_cases c4 : lastOp g=1 ∨ 4≤lastOp g
 ·rw [if_pos c4] at h; omega
 rw [List.all_eq_true] at c3
 have hop : ∀ x ∈ g.ins,unusedB x=true∧opOk g.ins.length g.caps g.runes x=true := fun x hx=>by
  have := c3 x hx
  unfold insB at this
  rwa [Bool.and_eq_true] at this
 have hops : ∀ x ∈ g.ins,0≤x.op∧x.op≤5 := fun x hx=>by
  have := (hop x hx).2
  unfold opOk at this
  by_cases o0 : x.op=0
  ·omega
  by_cases o1 : x.op=1
  ·omega
  by_cases o2 : x.op=2
  ·omega
  by_cases o3 : x.op=3
  ·omega
  by_cases o4 : x.op=4
  ·omega
  by_cases o5 : x.op=5
  ·omega
  rw [if_neg o0,if_neg o1,if_neg o2,if_neg o3,if_neg o4,if_neg o5] at this
  cases this
 refine ⟨by omega,by omega,by omega,by omega,fun x hx=>?_,fun i x hx o=>?_,fun i x hx o=>?_,fun i x hx o=>?_,fun i x hx o=>?_,fun i x hx o=>?_,hops⟩
 ·obtain ⟨hu,ho⟩ := hop x hx
  by_cases o1 : x.op=1
  ·unfold opOk at ho
   rw [if_neg (by omega),if_pos o1,Bool.and_eq_true] at ho
   have := of_decide_eq_true ho.1
   unfold setE at this
   split at this
   ·split at this
    ·omega
    ·omega
   ·omega
  ·have := (of_decide_eq_true hu).1 o1
   omega
 ·have ho := (hop x (List.mem_of_getElem? hx)).2
  unfold opOk tgtB at ho
  rw [if_neg (by omega),if_neg (by omega),if_pos o,Bool.and_eq_true,decide_eq_true_eq,decide_eq_true_eq] at ho
  omega
 ·have ho := (hop x (List.mem_of_getElem? hx)).2
  unfold opOk tgtB at ho
  rw [if_neg (by omega),if_neg (by omega),if_neg (by omega),if_pos o,decide_eq_true_eq] at ho
  omega
 ·have ho := (hop x (List.mem_of_getElem? hx)).2
  unfold opOk at ho
  rw [if_neg (by omega),if_neg (by omega),if_neg (by omega),if_neg (by omega),if_pos o,decide_eq_true_eq] at ho
  exact ho
 ·have ho := (hop x (List.mem_of_getElem? hx)).2
  unfold opOk at ho
  rw [if_neg (by omega),if_neg (by omega),if_neg (by omega),if_neg (by omega),if_neg (by omega),if_pos o,decide_eq_true_eq] at ho
  exact ho
 ·have hlt := (List.getElem?_eq_some_iff.1 hx).1
  rcases Nat.lt_or_ge (i + 1) g.ins.length with h' | h'
  ·exact h'
  ·exfalso
   have hi : g.ins.length - 1=i := by omega
   apply c4
   unfold lastOp
   rw [hi,hx]
   exact o
theorem valid10_ok (g : Prg) (hs : g.ins.length≤1000000000) (hl : ∀ x ∈ g.ins,x.set.length≤1000000000) : PureOK prog 66 [prgV g] (i64 (prgE g)) := by
 have hboxP : (⟨0,true,3,[[.d (.sl (g.ins.map Ins.cells)),.d (.sc (.int .i64 g.caps)),.d (.sc (.bool g.runes))]]⟩ : VL.Obj)=boxP g := rfl
 unfold prgE
 refine fn_ok func66 rfl ntmps66 results66 rfl 0 63 (by simp) (by simp) ?_
 by_cases c1 : (8192 : Int) < (g.ins.length : Int)
 ·rw [if_pos (by omega)]
  simp only [zX,simprocAttr,i64,bV,iD,bD,prgV_eq,c1,gt_iff_lt,List.length_map]
 rw [if_neg (by omega)]
 by_cases c2 : (g.ins.length : Int)=0
 ·have c2' := eq_true c2
  rw [if_pos (by omega)]
  simp only [zX,simprocAttr,i64,bV,iD,bD,prgV_eq,c1,c2',gt_iff_lt,List.length_map]
 by_cases c3 : g.caps < 0
 ·rw [if_pos (by omega)]
  simp only [zX,simprocAttr,i64,bV,iD,bD,prgV_eq,c1,c2,c3,gt_iff_lt,List.length_map]
 by_cases c4 : 9 < g.caps
 ·rw [if_pos (by omega)]
  simp only [zX,simprocAttr,i64,bV,iD,bD,prgV_eq,c1,c2,c3,c4,gt_iff_lt,List.length_map]
 rw [if_neg (by omega)]
 simp only [zX,simprocAttr,i64,bV,iD,bD,prgV_eq,c1,c2,c3,c4,gt_iff_lt,List.length_map]
 refine loop_rule (fun n e s=>∃ i : Nat,n=g.ins.length - i∧i≤g.ins.length∧e 1=.rf 0 0 0 0∧e 3=i64 i∧s=[boxP g]∧∀ y ∈ g.ins.take i,insB g.ins.length g.caps g.runes y=true)
  ⟨_,_,_,Cln.refl,0,rfl,by omega,rfl,rfl,rfl,by simp⟩ ?_
 rintro n e s ⟨i,rfl,hi,h1,h3,rfl,hall⟩
 rcases Nat.lt_or_ge i g.ins.length with hlt | hge
 ·obtain ⟨x,hx⟩ : ∃ x,g.ins[i]?=some x := ⟨_,List.getElem?_eq_getElem hlt⟩
  have hlt' : (i : Int) < g.ins.length := by omega
  have hf := formed10_ok g x (by omega) (by omega) (hl x (List.mem_of_getElem? hx))
  simp only [prgV_eq,Ins.cells,List.map_cons,List.map_nil,iD,bD,bV] at hf
  cases hin : insB g.ins.length g.caps g.runes x with
  | true =>
   rw [hin] at hf
   simp only [zX,simprocAttr,i64,bV,iD,bD,boxP,h1,h3,hlt',hx,List.length_map]
   refine draw_c mix [] [] (by rfl) ?_
   simp only [zX,simprocAttr,i64,bV,iD,bD,boxP,h1,h3,hlt',hx,Ins.cells,List.length_map]
   refine callC_pure hf rfl rfl ?_
   simp only [zX,simprocAttr,i64,bV,iD,bD,boxP,h1,h3,hlt',hx,Bool.not_true]
   refine ⟨g.ins.length - (i + 1),_,_,by omega,Cln.refl,i + 1,rfl,hlt,?_,?_,rfl,?_⟩ <;> (try simp only [zU,Nat.reduceBEq,Nat.reduceShiftRight,Nat.reduceMod,Nat.reduceEqDiff,reduceIte])
   ·exact h1
   ·rw [w64 _ (by omega)]; rfl
   ·intro y hy
    rcases mem_take_succ hx hy with h | rfl
    ·exact hall y h
    ·exact hin
  | false =>
   rw [hin] at hf
   simp only [zX,simprocAttr,i64,bV,iD,bD,boxP,h1,h3,hlt',hx,List.length_map]
   refine draw_c mix [] [] (by rfl) ?_
   simp only [zX,simprocAttr,i64,bV,iD,bD,boxP,h1,h3,hlt',hx,Ins.cells,List.length_map]
   refine callC_pure hf rfl rfl ?_
   simp only [zX,simprocAttr,i64,bV,iD,bD,boxP,h1,h3,hlt',hx,Bool.not_false]
   have : g.ins.all (insB g.ins.length g.caps g.runes)=false := by rw [List.all_eq_false]; exact ⟨x,List.mem_of_getElem? hx,by simp [hin]⟩
   rw [this]
   rfl
 ·have hie : i=g.ins.length := by omega
  subst hie
  have hlt' : ¬ (g.ins.length : Int) < g.ins.length := by omega
  rw [List.take_length] at hall
  have hA : g.ins.all (insB g.ins.length g.caps g.runes)=true := by rw [List.all_eq_true]; exact hall
  rw [if_pos hA]
  obtain ⟨x,hx⟩ : ∃ x,g.ins[g.ins.length - 1]?=some x := ⟨_,List.getElem?_eq_getElem (by omega)⟩
  have hlo : lastOp g=x.op := by unfold lastOp; rw [hx]
  rw [hlo]
  have w3 : IntKind.i64.wrap ((g.ins.length : Int) - 1)=((g.ins.length - 1 : Nat) : Int) := by rw [w64 _ (by omega)]; omega
  have b1 : (0 : Int)≤((g.ins.length - 1 : Nat) : Int) := by omega
  have b2 : ((g.ins.length - 1 : Nat) : Int) < (g.ins.length : Int) := by omega
  by_cases d1 : x.op=1
  ·have d1' := eq_true d1
   rw [if_pos (.inl d1)]
   simp only [zX,simprocAttr,i64,bV,iD,bD,boxP,h1,h3,hlt',hx,w3,b1,b2,Ins.cells,d1',ge_iff_le,List.length_map]
  by_cases d2 : 4≤x.op
  ·rw [if_pos (.inr d2)]
   simp only [zX,simprocAttr,i64,bV,iD,bD,boxP,h1,h3,hlt',hx,w3,b1,b2,Ins.cells,d1,d2,ge_iff_le,List.length_map]
  ·rw [if_neg (by omega)]
   simp only [zX,simprocAttr,i64,bV,iD,bD,boxP,h1,h3,hlt',hx,w3,b1,b2,Ins.cells,d1,d2,ge_iff_le,List.length_map]
def chkE (g : Prg) (t : List Int) (at_ : Int) : Int := if prgE g ≠ 0 then prgE g else if 65536 < t.length then 4 else if at_ < 0 ∨ (t.length : Int) < at_ then 5 else 0
theorem check11_ok (g : Prg) (hs : g.ins.length≤1000000000) (hl : ∀ x ∈ g.ins,x.set.length≤1000000000) (t : List Int) (ht : t.length≤1000000000) (at_ : Int) : PureOK prog 36 [prgV g,.d (intsD t),i64 at_] (i64 (chkE g t at_)) := by
 have hv := valid10_ok g hs hl
 unfold chkE
 generalize prgE g=E at *
 simp only [prgV_eq,i64,iD,bD] at hv
 refine fn_ok func36 rfl ntmps36 results36 rfl 0 207 (by simp) (by simp) ?_
 simp only [zX,simprocAttr,i64,bV,iD,bD,prgV_eq]
 refine call_pure hv rfl rfl ?_
 by_cases c0 : E=0
 ·subst c0
  rw [if_neg (by simp)]
  by_cases c1 : (65536 : Int) < (t.length : Int)
  ·rw [if_pos (by omega)]
   simp only [zX,simprocAttr,i64,bV,iD,bD,intsD,c1,gt_iff_lt,ne_eq,not_true_eq_false,List.length_map]
  rw [if_neg (by omega)]
  by_cases c2 : at_ < 0
  ·rw [if_pos (.inl c2)]
   simp only [zX,simprocAttr,i64,bV,iD,bD,intsD,c1,c2,gt_iff_lt,ne_eq,not_true_eq_false,List.length_map]
  by_cases c3 : (t.length : Int) < at_
  ·rw [if_pos (.inr c3)]
   simp only [zX,simprocAttr,i64,bV,iD,bD,intsD,c1,c2,c3,gt_iff_lt,ne_eq,not_true_eq_false,List.length_map]
  ·rw [if_neg (by omega)]
   simp only [zX,simprocAttr,i64,bV,iD,bD,intsD,c1,c2,c3,gt_iff_lt,ne_eq,not_true_eq_false,List.length_map]
 ·rw [if_pos c0]
  simp only [zX,simprocAttr,i64,bV,iD,bD,c0,ne_eq,not_false_eq_true]
def lastRegs (l : List RTh) : List Int := match l[l.length - 1]? with | none=>[] | some x=>x.regs
def bestR (g : Prg) (start : Int) (l : RList) (b : Option Mat) : Option Mat :=
 if (cutR g l.st.ths).2=true then some ⟨start,l.at_,capsOf g.caps.toNat (lastRegs (cutR g l.st.ths).1)⟩ else b
def runR (g : Prg) (t : List Int) (start : Int) : Nat→RList→Option Mat→Option Mat
 | 0,_,b=>b
 | k + 1,l,b=>if (cutR g l.st.ths).1=[] ∨ (t.length : Int)≤l.at_ then bestR g start l b else runR g t start k (nextR g t l) (bestR g start l b)
def run0 (g : Prg) (t : List Int) (at_ : Int) : Option Mat := runR g t at_ (t.length + 1) (beginR g t at_) none
def optM (b : Option Mat) : Mat := b.getD ⟨0,0,[]⟩
def capsV : Option Mat→V
 | none=>.fu []
 | some m=>.d (capD m.c)
def bestO (b : Option Mat) : VL.Obj := ⟨0,true,3,[[i64 (optM b).s,i64 (optM b).e,capsV b]]⟩
theorem capsV_frz (lim : Nat) (s : List VL.Obj) (b : Option Mat) : frzV lim s (capsV b)=some (.d (capD (optM b).c)) := by
 cases b <;> rfl
theorem begin_th (g : Prg) (hg : g.good) (t : List Int) (at_ : Int) : (∀ x ∈ (beginR g t at_).st.ths,x.ok g)∧(beginR g t at_).st.ths.length≤1000000 := by
 have hl0 := hg.len0
 have hl1 := hg.len1
 have h := rAdd_len g t at_ (rGas g) 0 (List.replicate (2 * g.caps).toNat (-1)) (rNone g)
 have e : free (rNone g).added=g.ins.length := free_none _
 have e2 : (rNone g).ths.length=0 := rfl
 refine ⟨rAdd_all g hg t at_ _ _ _ _ (Int.le_refl _) (by omega) (by simp) (fun x hx=>by simp [rNone] at hx),?_⟩
 show (rAdd g t at_ (rGas g) 0 (List.replicate (2 * g.caps).toNat (-1)) (rNone g)).ths.length≤_
 omega
theorem next_th (g : Prg) (hg : g.good) (t : List Int) (l : RList) (hl : ∀ x ∈ l.st.ths,x.ok g) : (∀ x ∈ (nextR g t l).st.ths,x.ok g)∧(nextR g t l).st.ths.length≤1000000 := by
 have hl1 := hg.len1
 obtain ⟨_,h2,h3⟩ := nextF_ok g hg t l.at_ (cutR g l.st.ths).1 (fun x hx=>hl x (cutR_sub g _ x hx))
 exact ⟨h3,by show (nextF g t l.at_ (cutR g l.st.ths).1).ths.length≤_; omega⟩
theorem cutR_done (g : Prg) : ∀ l : List RTh,(cutR g l).2=true→(cutR g l).1 ≠ []
 | [],h=>by simp [cutR] at h
 | x :: l,h=>by
  rw [cutR]
  split <;> simp
theorem run11_ok (g : Prg) (hg : g.good) (t : List Int) (ht : t.length≤65536) (at_ : Int) (ha0 : 0≤at_) (ha1 : at_≤t.length) : PureOK prog 37 [prgV g,.d (intsD t),i64 at_] (.tu [(optM (run0 g t at_)).v,bV (run0 g t at_).isSome]) := by
 have hc0 := hg.caps0
 have hc1 := hg.caps1
 have hbeg := begin_ok g hg t ht at_ ha0 ha1
 simp only [prgV_eq,i64,iD,bD] at hbeg
 unfold run0
 obtain ⟨R,hR⟩ : ∃ R,R=runR g t at_ (t.length + 1) (beginR g t at_) none := ⟨_,rfl⟩
 rw [← hR]
 refine fn_ok func37 rfl ntmps37 results37 rfl 0 8143 (by simp) (by simp) ?_
 simp only [zX,simprocAttr,i64,bV,iD,bD,prgV_eq]
 refine call_pure hbeg rfl rfl ?_
 simp only [zX,simprocAttr,i64,bV,iD,bD,prgV_eq]
 obtain ⟨b1,b2⟩ := begin_th g hg t at_
 refine loop_rule (fun n e s=>∃ (l : RList) (b : Option Mat),n=(t.length - l.at_).toNat∧0≤l.at_∧l.at_≤t.length∧(∀ x ∈ l.st.ths,x.ok g)∧l.st.ths.length≤1000000∧(∃ k : Nat,(t.length : Int) - l.at_ < k∧R=runR g t at_ k l b)∧e 1=.d (intsD t)∧e 2=i64 at_∧e 3=.rf 0 0 0 0∧e 6=.rf 1 0 0 0∧e 8=.rf 2 0 0 0∧e 9=bV b.isSome∧e 10=.d (rlD l)∧s=[boxP g,zeroMO,bestO b])
  ⟨_,_,_,Cln.refl,beginR g t at_,none,rfl,ha0,ha1,b1,b2,⟨t.length + 1,by show (t.length : Int) - at_ < _; omega,hR⟩,rfl,rfl,rfl,rfl,rfl,rfl,rfl,rfl⟩ ?_
 clear b1 b2 hbeg hR
 rintro n e s ⟨l,b,rfl,hl0,hl1,hth,hthn,⟨k,hk,hR⟩,h1,h2,h3,h6,h8,h9,h10,rfl⟩
 obtain ⟨k,rfl⟩ : ∃ j,k=j + 1 := ⟨k - 1,by omega⟩
 rw [runR] at hR
 have hcut := cut_ok g hg l hth hthn
 have hdone := cutR_done g l.st.ths
 have hcs := cutR_sub g l.st.ths
 have hcl := cutR_len g l.st.ths
 have hnext := fun h=>next_ok11 g hg t ht l hth hthn hl0 h
 obtain ⟨x1,x2⟩ := next_th g hg t l hth
 have hbr : bestR g at_ l b=if (cutR g l.st.ths).2=true then some ⟨at_,l.at_,capsOf g.caps.toNat (lastRegs (cutR g l.st.ths).1)⟩ else b := rfl
 generalize bestR g at_ l b=b' at *
 generalize (cutR g l.st.ths).1=C at *
 generalize (cutR g l.st.ths).2=cb at *
 have nat : (nextR g t l).at_=l.at_ + 1 := rfl
 unfold rlD thsD at hcut
 unfold rlD thsD at h10
 simp only [i64,bV,prgV_eq,iD,bD] at hcut hnext
 have hlen : ∀ x : Int,(C.length : Int)=0 ↔ C=[] := fun _=>by simp
 cases cb with
 | true =>
  rw [if_pos rfl] at hbr
  have hne := hdone rfl
  have hpos : 0 < C.length := List.length_pos_iff.2 hne
  obtain ⟨x,hx⟩ : ∃ x,C[C.length - 1]?=some x := ⟨_,List.getElem?_eq_getElem (by omega)⟩
  have hlr : lastRegs C=x.regs := by unfold lastRegs; rw [hx]
  rw [hlr] at hbr
  have hxr := (hth x (hcs x (List.mem_of_getElem? hx))).regs
  have hres := result11_ok g.caps.toNat (by omega) at_ l.at_ x.regs (by rw [hxr]; omega)
  have w1 : IntKind.i64.wrap ((C.length : Int) - 1)=((C.length - 1 : Nat) : Int) := by rw [w64 _ (by omega)]; omega
  have c1 : (0 : Int)≤((C.length - 1 : Nat) : Int) := by omega
  have c2 : ((C.length - 1 : Nat) : Int) < (C.length : Int) := by omega
  have c3 : ¬ (C.length : Int)=0 := by omega
  have hb1 : capsV b'=.d (capD (capsOf g.caps.toNat x.regs)) := by rw [hbr]; rfl
  have hb2 : optM b'=⟨at_,l.at_,capsOf g.caps.toNat x.regs⟩ := by rw [hbr]; rfl
  have hb3 : b'.isSome=true := by rw [hbr]; rfl
  simp only [i64] at hres
  by_cases c4 : (t.length : Int)≤l.at_
  ·rw [if_pos (.inr c4)] at hR
   subst hR
   simp only [zX,simprocAttr,i64,bV,iD,bD,prgV_eq,boxP,bestO,zeroMO,intsD,thsD,h1,h2,h3,h6,h8,h9,h10,rlD,ge_iff_le,List.length_map]
   refine call_pure hcut rfl rfl ?_
   simp only [zX,simprocAttr,i64,bV,iD,bD,prgV_eq,boxP,bestO,zeroMO,intsD,thsD,h1,h2,h3,h6,h8,h9,h10,rlD,ge_iff_le,List.length_map]
   refine draw_c mix [] [(13,[2],[2])] (by rfl) ?_
   simp only [zX,simprocAttr,i64,bV,iD,bD,prgV_eq,boxP,bestO,zeroMO,intsD,thsD,h1,h2,h3,h6,h8,h9,h10,rlD,ge_iff_le,List.length_map,w1,c1,c2,hx,RTh.cells]
   refine callC_pure hres rfl rfl ?_
   simp only [zX,simprocAttr,i64,bV,iD,bD,prgV_eq,boxP,bestO,zeroMO,intsD,thsD,h1,h2,h3,h6,h8,h9,h10,rlD,ge_iff_le,List.length_map,c3,c4,hb2,hb3,Mat.v]
  ·rw [if_neg (fun h=>h.elim hne c4)] at hR
   have hnx := hnext (by omega)
   unfold rlD thsD at hnx
   simp only [iD,bD,intsD] at hnx
   simp only [zX,simprocAttr,i64,bV,iD,bD,prgV_eq,boxP,bestO,zeroMO,intsD,thsD,h1,h2,h3,h6,h8,h9,h10,rlD,ge_iff_le,List.length_map]
   refine call_pure hcut rfl rfl ?_
   simp only [zX,simprocAttr,i64,bV,iD,bD,prgV_eq,boxP,bestO,zeroMO,intsD,thsD,h1,h2,h3,h6,h8,h9,h10,rlD,ge_iff_le,List.length_map]
   refine draw_c mix [] [(13,[2],[2])] (by rfl) ?_
   simp only [zX,simprocAttr,i64,bV,iD,bD,prgV_eq,boxP,bestO,zeroMO,intsD,thsD,h1,h2,h3,h6,h8,h9,h10,rlD,ge_iff_le,List.length_map,w1,c1,c2,hx,RTh.cells]
   refine callC_pure hres rfl rfl ?_
   simp only [zX,simprocAttr,i64,bV,iD,bD,prgV_eq,boxP,bestO,zeroMO,intsD,thsD,h1,h2,h3,h6,h8,h9,h10,rlD,ge_iff_le,List.length_map,c3,c4]
   refine call_pure hnx rfl rfl ?_
   simp only [zX,simprocAttr,i64,bV,iD,bD,prgV_eq,boxP,bestO,zeroMO,intsD,thsD,h1,h2,h3,h6,h8,h9,h10,rlD,ge_iff_le,List.length_map]
   refine ⟨(t.length - (l.at_ + 1)).toNat,_,_,by omega,Cln.refl,nextR g t l,b',by rw [nat],by rw [nat]; omega,by rw [nat]; omega,x1,x2,⟨k,by rw [nat]; omega,hR⟩,?_,?_,?_,?_,?_,?_,?_,?_⟩ <;> (try simp only [zU,Nat.reduceBEq,Nat.reduceShiftRight,Nat.reduceMod,Nat.reduceEqDiff,reduceIte])
   ·exact h1
   ·exact h2
   ·exact h3
   ·exact h6
   ·exact h8
   ·rw [hb3]
   ·rw [hb1,hb2]
 | false =>
  rw [if_neg (by simp)] at hbr
  subst hbr
  by_cases c3 : (C.length : Int)=0
  ·have c3' := eq_true c3
   rw [if_pos (.inl ((hlen 0).1 c3))] at hR
   subst hR
   simp only [zX,simprocAttr,i64,bV,iD,bD,prgV_eq,boxP,bestO,zeroMO,intsD,thsD,h1,h2,h3,h6,h8,h9,h10,rlD,ge_iff_le,List.length_map]
   refine call_pure hcut rfl rfl ?_
   simp only [zX,simprocAttr,i64,bV,iD,bD,prgV_eq,boxP,bestO,zeroMO,intsD,thsD,h1,h2,h3,h6,h8,h9,h10,rlD,ge_iff_le,List.length_map,c3',capsV_frz,Bool.false_eq_true]
   all_goals first | exact ⟨rfl,rfl⟩ | exact ⟨rfl,trivial⟩ | rfl | trivial | (rw [reV_eq]; rfl)
  by_cases c4 : (t.length : Int)≤l.at_
  ·rw [if_pos (.inr c4)] at hR
   subst hR
   simp only [zX,simprocAttr,i64,bV,iD,bD,prgV_eq,boxP,bestO,zeroMO,intsD,thsD,h1,h2,h3,h6,h8,h9,h10,rlD,ge_iff_le,List.length_map]
   refine call_pure hcut rfl rfl ?_
   simp only [zX,simprocAttr,i64,bV,iD,bD,prgV_eq,boxP,bestO,zeroMO,intsD,thsD,h1,h2,h3,h6,h8,h9,h10,rlD,ge_iff_le,List.length_map,c3,c4,capsV_frz,Bool.false_eq_true]
   all_goals first | exact ⟨rfl,rfl⟩ | exact ⟨rfl,trivial⟩ | rfl | trivial | (rw [reV_eq]; rfl)
  ·rw [if_neg (fun h=>h.elim (fun h'=>c3 ((hlen 0).2 h')) c4)] at hR
   have hnx := hnext (by omega)
   unfold rlD thsD at hnx
   simp only [iD,bD,intsD] at hnx
   simp only [zX,simprocAttr,i64,bV,iD,bD,prgV_eq,boxP,bestO,zeroMO,intsD,thsD,h1,h2,h3,h6,h8,h9,h10,rlD,ge_iff_le,List.length_map]
   refine call_pure hcut rfl rfl ?_
   simp only [zX,simprocAttr,i64,bV,iD,bD,prgV_eq,boxP,bestO,zeroMO,intsD,thsD,h1,h2,h3,h6,h8,h9,h10,rlD,ge_iff_le,List.length_map,c3,c4,Bool.false_eq_true]
   refine call_pure hnx rfl rfl ?_
   simp only [zX,simprocAttr,i64,bV,iD,bD,prgV_eq,boxP,bestO,zeroMO,intsD,thsD,h1,h2,h3,h6,h8,h9,h10,rlD,ge_iff_le,List.length_map]
   refine ⟨(t.length - (l.at_ + 1)).toNat,_,_,by omega,Cln.refl,nextR g t l,b',by rw [nat],by rw [nat]; omega,by rw [nat]; omega,x1,x2,⟨k,by rw [nat]; omega,hR⟩,?_,?_,?_,?_,?_,?_,?_,?_⟩ <;> (try simp only [zU,Nat.reduceBEq,Nat.reduceShiftRight,Nat.reduceMod,Nat.reduceEqDiff,reduceIte])
   ·exact h1
   ·exact h2
   ·exact h3
   ·exact h6
   ·exact h8
   ·exact h9
def runE (g : Prg) (t : List Int) (at_ : Int) : Option Mat × Int := if chkE g t at_=0 then (run0 g t at_,0) else (none,chkE g t at_)
theorem chkE_ok {g : Prg} {t : List Int} {at_ : Int} (h : chkE g t at_=0) : g.good∧t.length≤65536∧0≤at_∧at_≤t.length := by
 unfold chkE at h
 by_cases c0 : prgE g=0
 ·rw [if_neg (by simpa using c0)] at h
  split at h
  ·omega
  ·split at h
   ·omega
   ·exact ⟨good_of c0,by omega,by omega,by omega⟩
 ·rw [if_pos c0] at h; exact absurd h c0
end Go.Proofs.Ytdofoappodmcoaa
