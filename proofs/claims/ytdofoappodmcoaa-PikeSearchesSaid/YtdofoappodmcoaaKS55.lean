/- A part of the proof (K66). -/
import Derived.Test.YtdofoappodmcoaaKS54
import Derived.Test.YtdofoappodmcoaaKS41
import Derived.Test.YtdofoappodmcoaaKS45
import Derived.Test.YtdofoappodmcoaaKS46
set_option linter.unusedSimpArgs false
set_option linter.unusedVariables false
set_option maxRecDepth 100000
set_option maxHeartbeats 80000000
namespace Go.Proofs.Ytdofoappodmcoaa
open Go.VL Go.Proofs.Try
theorem getL_of3 {α : Type} {n : Nat} {L : List α} (h : L.length=n) {j : Nat} (hj : j < n) : ∃ x,L[j]?=some x := ⟨L[j]'(by omega),List.getElem?_eq_getElem (by omega)⟩
theorem run0_caps (g : Prg) (t : List Int) (i : Int) (hg : g.good) (m : Mat) (h : run0 g t i=some m) : m.c.length≤9 := by
 have h1 := hg.caps1
 have key : ∀ (k : Nat) (l : RList) (b : Option Mat),(∀ m,b=some m→m.c.length≤9)→∀ m,runR g t i k l b=some m→m.c.length≤9 := by
  intro k
  induction k with
  | zero=>intro l b hb; exact hb
  | succ k ih =>
   intro l b hb
   have hb2 : ∀ m,bestR g i l b=some m→m.c.length≤9 := by
    intro m hm
    unfold bestR at hm
    split at hm
    ·simp only [Option.some.injEq] at hm
     rw [← hm]
     simp [capsOf]; omega
    ·exact hb m hm
   rw [runR]
   split
   ·exact hb2
   ·exact ih _ _ hb2
 exact key _ _ none (fun _ h=>by cases h) m h
theorem everyE_caps (g : Prg) (t : List Int) : ∀ m ∈ (everyE g t).1,m.c.length≤9 := by
 intro m hm
 unfold everyE at hm
 by_cases hc : chkE g t 0=0
 ·rw [if_pos hc] at hm
  obtain ⟨i,_,hx⟩ := List.mem_flatMap.1 hm
  exact run0_caps g t i (chkE_ok hc).1 m (by simpa [resAt] using hx)
 ·rw [if_neg hc] at hm; cases hm
theorem firstG_caps (g : Prg) (t : List Int) (hg : g.good) : ∀ (k : Nat) (a : Int) (m : Mat),firstG g t k a=some m→m.c.length≤9
 | 0,_,_,h=>by simp [firstG] at h
 | k + 1,a,m,h=>by
  rw [firstG] at h
  cases hq : run0 g t a with
  | some m'=>rw [hq] at h; simp only [Option.some.injEq] at h; rw [← h]; exact run0_caps g t a hg m' hq
  | none=>rw [hq] at h; exact firstG_caps g t hg k (a + 1) m h
theorem firstE_caps (g : Prg) (t : List Int) (a : Int) : (optM (firstE g t a).1).c.length≤9 := by
 unfold firstE
 by_cases hc : chkE g t a=0
 ·rw [if_pos hc]
  cases hq : firstG g t ((t.length : Int) - a + 1).toNat a with
  | none=>simp [optM]
  | some m=>exact firstG_caps g t (chkE_ok hc).1 _ _ m hq
 ·rw [if_neg hc]; simp [optM]
theorem pikeSearchesL_ok (l : List Int) (hl : ∀ x ∈ l,I64 x) (m : List Int) (hm : ∀ x ∈ m,I64 x) (at_ how by' : Int) (ha : I64 at_) (hh : I64 how) (hb : I64 by') :
  PureOK prog 5 [.d (intsD l),.d (intsD m),i64 at_,i64 how,i64 by'] (bV true) := by
 obtain ⟨p,t,h,g1,g2,hprog,hP,hcomp,hsm⟩ := programs_ok l m hl hm at_ how by' ha hh hb
 have htl := hP.len
 have hlv := lives11_ok
 have har := around_ok at_ ((t.length : Int) + 1) (by omega) ha
 have w1 : IntKind.i64.wrap ((t.length : Int) + 1)=(t.length : Int) + 1 := w64 _ (by omega)
 have hLn : ([compR p,h,g1,g2] : List Prg).length=4 := rfl
 generalize ([compR p,h,g1,g2] : List Prg)=L at *
 generalize around at_ ((t.length : Int) + 1)=aa at *
 simp only [progsD,i64,bV] at hprog hlv har
 refine fn_ok func5 rfl ntmps5 results5 rfl 0 134216735 (by simp) (by simp) ?_
 simp only [zX,Nat.reduceShiftRight,Nat.reduceMod,Nat.reduceLT,Nat.reduceMul,Nat.reduceSub,Int.reduceToNat,Int.reduceNeg,Int.reduceLT,Int.reduceLE,Int.reduceEq,Nat.reduceEqDiff,Nat.reduceAdd,Nat.reduceLeDiff,reduceIte,reduceCtorEq,Nat.reduceBEq,i64,bV,iD,bD]
 refine call_pure hprog rfl rfl ?_
 simp only [zX,Nat.reduceShiftRight,Nat.reduceMod,Nat.reduceLT,Nat.reduceMul,Nat.reduceSub,Int.reduceToNat,Int.reduceNeg,Int.reduceLT,Int.reduceLE,Int.reduceEq,Nat.reduceEqDiff,Nat.reduceAdd,Nat.reduceLeDiff,reduceIte,reduceCtorEq,Nat.reduceBEq,i64,bV,iD,bD]
 refine loop_rule (fun n e s=>∃ i : Nat,n=4 - i∧i≤4∧e 2=i64 at_∧e 4=i64 by'∧e 11=.d (.sl (L.map Prg.cells))∧e 12=.d (intsD t)∧e 13=i64 i∧s=[])
  ⟨_,_,_,Cln.refl,0,rfl,by omega,rfl,rfl,rfl,rfl,rfl,rfl⟩ ?_
 rintro n e s ⟨i,rfl,hi,h2,h4,h11,h12,h13,rfl⟩
 rcases Nat.lt_or_ge i 4 with hlt | hge
 ·obtain ⟨g,hg⟩ := getL_of3 hLn hlt
  have hgs := hsm g (List.mem_of_getElem? hg)
  have hgl := hgs.len
  have hgset : ∀ x ∈ g.ins,x.set.length≤1000000000 := fun x hx=>by have := hgs.sets x hx; omega
  have hreal := real_ok g (by omega)
  have hev := pikeEvery_ok g (by omega) hgset t (by omega)
  have hev2 := Every11_ok g (by omega) hgset t (by omega)
  have hfi := fun s=>pikeFirst_ok g (by omega) hgset t (by omega) s
  have hfi2 := fun s=>First11_ok g (by omega) hgset t (by omega) s
  have hlaw := fun s=>every_first g t s
  have hec := everyE_caps g t
  have hel := everyE_len g t
  have hfc := fun s=>firstE_caps g t s
  have heqs := equalsK (everyE g t).1 (by omega) (fun m hm=>by have := hec m hm; omega)
  have heq := fun (x y : Mat) (hx : x.c.length≤9)=>equal_ok x y (by omega)
  have hlt' : (i : Int) < (L.length : Int) := by omega
  generalize everyE g t=E at *
  obtain ⟨A,Ee⟩ := E
  simp only at hev hev2 hec hel heqs hlaw
  simp only [prgV_eq,i64,bV,iD,bD,Mat.v,intsD] at hreal hev hev2 hfi hfi2 heqs heq
  simp only [zX,Nat.reduceShiftRight,Nat.reduceMod,Nat.reduceLT,Nat.reduceMul,Nat.reduceSub,Int.reduceToNat,Int.reduceNeg,Int.reduceLT,Int.reduceLE,Int.reduceEq,Nat.reduceEqDiff,Nat.reduceAdd,Nat.reduceLeDiff,reduceIte,reduceCtorEq,Nat.reduceBEq,i64,bV,iD,bD,h2,h4,h11,h12,h13,hlt',w1,List.length_map,intsD,hg,Prg.cells]
  refine call_pure hreal rfl rfl ?_
  simp only [zX,Nat.reduceShiftRight,Nat.reduceMod,Nat.reduceLT,Nat.reduceMul,Nat.reduceSub,Int.reduceToNat,Int.reduceNeg,Int.reduceLT,Int.reduceLE,Int.reduceEq,Nat.reduceEqDiff,Nat.reduceAdd,Nat.reduceLeDiff,reduceIte,reduceCtorEq,Nat.reduceBEq,i64,bV,iD,bD,h2,h4,h11,h12,h13,hlt',w1,List.length_map,intsD,hg,Prg.cells]
  refine call_pure hev rfl rfl ?_
  simp only [zX,Nat.reduceShiftRight,Nat.reduceMod,Nat.reduceLT,Nat.reduceMul,Nat.reduceSub,Int.reduceToNat,Int.reduceNeg,Int.reduceLT,Int.reduceLE,Int.reduceEq,Nat.reduceEqDiff,Nat.reduceAdd,Nat.reduceLeDiff,reduceIte,reduceCtorEq,Nat.reduceBEq,i64,bV,iD,bD,h2,h4,h11,h12,h13,hlt',w1,List.length_map,intsD,hg,Prg.cells]
  refine call_pure hev2 rfl rfl ?_
  simp only [zX,Nat.reduceShiftRight,Nat.reduceMod,Nat.reduceLT,Nat.reduceMul,Nat.reduceSub,Int.reduceToNat,Int.reduceNeg,Int.reduceLT,Int.reduceLE,Int.reduceEq,Nat.reduceEqDiff,Nat.reduceAdd,Nat.reduceLeDiff,reduceIte,reduceCtorEq,Nat.reduceBEq,i64,bV,iD,bD,h2,h4,h11,h12,h13,hlt',w1,List.length_map,intsD,hg,Prg.cells,ne_eq,not_true_eq_false,decide_false]
  refine call_pure heqs rfl rfl ?_
  simp only [zX,Nat.reduceShiftRight,Nat.reduceMod,Nat.reduceLT,Nat.reduceMul,Nat.reduceSub,Int.reduceToNat,Int.reduceNeg,Int.reduceLT,Int.reduceLE,Int.reduceEq,Nat.reduceEqDiff,Nat.reduceAdd,Nat.reduceLeDiff,reduceIte,reduceCtorEq,Nat.reduceBEq,i64,bV,iD,bD,h2,h4,h11,h12,h13,hlt',w1,List.length_map,intsD,hg,Prg.cells,Bool.not_true]
  refine call_pure har rfl rfl ?_
  simp only [zX,Nat.reduceShiftRight,Nat.reduceMod,Nat.reduceLT,Nat.reduceMul,Nat.reduceSub,Int.reduceToNat,Int.reduceNeg,Int.reduceLT,Int.reduceLE,Int.reduceEq,Nat.reduceEqDiff,Nat.reduceAdd,Nat.reduceLeDiff,reduceIte,reduceCtorEq,Nat.reduceBEq,i64,bV,iD,bD,h2,h4,h11,h12,h13,intsD,List.length_map]
  obtain ⟨S,hS⟩ : ∃ S : List (List D),S=[[iD 0],[iD aa],[iD by']] := ⟨_,rfl⟩
  have hSl : S.length=3 := by rw [hS]; rfl
  have hSr : ∀ r,r < 3→∃ sv : Int,S[r]?=some [.sc (.int .i64 sv)] := by
   intro r hr
   subst hS
   match r,hr with
   | 0,_=>exact ⟨_,rfl⟩
   | 1,_=>exact ⟨_,rfl⟩
   | 2,_=>exact ⟨_,rfl⟩
  refine loop_rule (fun n e s=>∃ k : Nat,n=3 - k∧k≤3∧e 2=i64 at_∧e 4=i64 by'∧e 11=.d (.sl (L.map Prg.cells))∧e 12=.d (intsD t)∧e 13=i64 i∧e 14=.d (.sl (A.map matK))∧e 15=i64 Ee∧e 18=.fu S∧e 19=i64 k∧s=[])
   ⟨_,_,_,Cln.refl,0,rfl,by omega,h2,h4,h11,h12,h13,rfl,rfl,by rw [hS]; rfl,rfl,rfl⟩ ?_
  clear hS
  rintro n e s ⟨k,rfl,hk,h2,h4,h11,h12,h13,h14,h15,h18,h19,rfl⟩
  rcases Nat.lt_or_ge k 3 with hlt2 | hge2
  ·obtain ⟨sv,hsv⟩ := hSr k hlt2
   have hr := hfi sv
   have hf := hfi2 sv
   have hl := hlaw sv
   have hc := hfc sv
   generalize firstE g t sv=R at *
   obtain ⟨Rm,Re⟩ := R
   simp only at hr hf hl hc
   have hq := heq (optM Rm) (optM Rm) hc
   simp only [decide_true] at hq
   have hk' : (k : Int) < (S.length : Int) := by omega
   simp only [zX,Nat.reduceShiftRight,Nat.reduceMod,Nat.reduceLT,Nat.reduceMul,Nat.reduceSub,Int.reduceToNat,Int.reduceNeg,Int.reduceLT,Int.reduceLE,Int.reduceEq,Nat.reduceEqDiff,Nat.reduceAdd,Nat.reduceLeDiff,reduceIte,reduceCtorEq,Nat.reduceBEq,i64,bV,iD,bD,h2,h4,h11,h12,h13,h14,h15,h18,h19,hk',intsD]
   refine draw_first Cln0.reserve ?_
   refine draw_c mix [] [(15,[0],[0]),(16,[0],[0])] (by rfl) ?_
   simp only [zX,Nat.reduceShiftRight,Nat.reduceMod,Nat.reduceLT,Nat.reduceMul,Nat.reduceSub,Int.reduceToNat,Int.reduceNeg,Int.reduceLT,Int.reduceLE,Int.reduceEq,Nat.reduceEqDiff,Nat.reduceAdd,Nat.reduceLeDiff,reduceIte,reduceCtorEq,Nat.reduceBEq,i64,bV,iD,bD,h2,h4,h11,h12,h13,h14,h15,h18,h19,hk',hlt',hg,hsv,Prg.cells,List.length_map]
   refine callC_pure hreal rfl rfl ?_
   simp only [zX,Nat.reduceShiftRight,Nat.reduceMod,Nat.reduceLT,Nat.reduceMul,Nat.reduceSub,Int.reduceToNat,Int.reduceNeg,Int.reduceLT,Int.reduceLE,Int.reduceEq,Nat.reduceEqDiff,Nat.reduceAdd,Nat.reduceLeDiff,reduceIte,reduceCtorEq,Nat.reduceBEq,i64,bV,iD,bD,h2,h4,h11,h12,h13,h14,h15,h18,h19,hk',hlt',hg,hsv,Prg.cells,List.length_map]
   refine callC_pure hr rfl rfl ?_
   simp only [zX,Nat.reduceShiftRight,Nat.reduceMod,Nat.reduceLT,Nat.reduceMul,Nat.reduceSub,Int.reduceToNat,Int.reduceNeg,Int.reduceLT,Int.reduceLE,Int.reduceEq,Nat.reduceEqDiff,Nat.reduceAdd,Nat.reduceLeDiff,reduceIte,reduceCtorEq,Nat.reduceBEq,i64,bV,iD,bD,h2,h4,h11,h12,h13,h14,h15,h18,h19,hk',hlt',hg,hsv,Prg.cells,List.length_map,hole,Value.oneCell']
   refine draw_first Cln0.reserve ?_
   refine draw_c mix [] [(14,[1],[1]),(15,[1],[1])] (by rfl) ?_
   simp only [zX,Nat.reduceShiftRight,Nat.reduceMod,Nat.reduceLT,Nat.reduceMul,Nat.reduceSub,Int.reduceToNat,Int.reduceNeg,Int.reduceLT,Int.reduceLE,Int.reduceEq,Nat.reduceEqDiff,Nat.reduceAdd,Nat.reduceLeDiff,reduceIte,reduceCtorEq,Nat.reduceBEq,i64,bV,iD,bD,h2,h4,h11,h12,h13,h14,h15,h18,h19,hk',hlt',hg,hsv,Prg.cells,List.length_map]
   refine callC_pure hf rfl rfl ?_
   simp only [zX,Nat.reduceShiftRight,Nat.reduceMod,Nat.reduceLT,Nat.reduceMul,Nat.reduceSub,Int.reduceToNat,Int.reduceNeg,Int.reduceLT,Int.reduceLE,Int.reduceEq,Nat.reduceEqDiff,Nat.reduceAdd,Nat.reduceLeDiff,reduceIte,reduceCtorEq,Nat.reduceBEq,i64,bV,iD,bD,h2,h4,h11,h12,h13,h14,h15,h18,h19,hk',hlt',hg,hsv,Prg.cells,List.length_map,hole,Value.oneCell',ne_eq,not_true_eq_false,decide_false,beq_self_eq_true,Bool.not_true]
   refine call_pure hq rfl rfl ?_
   by_cases he : Ee=0
   rotate_left
   ·simp only [zX,Nat.reduceShiftRight,Nat.reduceMod,Nat.reduceLT,Nat.reduceMul,Nat.reduceSub,Int.reduceToNat,Int.reduceNeg,Int.reduceLT,Int.reduceLE,Int.reduceEq,Nat.reduceEqDiff,Nat.reduceAdd,Nat.reduceLeDiff,reduceIte,reduceCtorEq,Nat.reduceBEq,i64,bV,iD,bD,h2,h4,h11,h12,h13,h14,h15,h18,h19,Bool.not_true,he,ne_eq,not_false_eq_true,decide_true]
    refine ⟨3 - (k + 1),_,_,by omega,Cln.cut (s' := []) 0 (by omega) rfl rfl [2,4,11,12,13,14,15,18,19] ?_,k + 1,rfl,hlt2,?_,?_,?_,?_,?_,?_,?_,?_,?_,rfl⟩ <;> (try simp only [zU,Nat.reduceBEq,Nat.reduceShiftRight,Nat.reduceMod,Nat.reduceEqDiff,reduceIte])
    ·simp [updE,trimE_app,refsV,h2,h4,h11,h12,h13,h14,h15,h18,i64]
    ·exact h2
    ·exact h4
    ·exact h11
    ·exact h12
    ·exact h13
    ·exact h14
    ·exact h15
    ·exact h18
    ·rw [w64 _ (by omega)]; rfl
   subst he
   by_cases hR : Re=0
   rotate_left
   ·simp only [zX,Nat.reduceShiftRight,Nat.reduceMod,Nat.reduceLT,Nat.reduceMul,Nat.reduceSub,Int.reduceToNat,Int.reduceNeg,Int.reduceLT,Int.reduceLE,Int.reduceEq,Nat.reduceEqDiff,Nat.reduceAdd,Nat.reduceLeDiff,reduceIte,reduceCtorEq,Nat.reduceBEq,i64,bV,iD,bD,h2,h4,h11,h12,h13,h14,h15,h18,h19,Bool.not_true,hR,ne_eq,not_false_eq_true,decide_true,not_true_eq_false,decide_false]
    refine ⟨3 - (k + 1),_,_,by omega,Cln.cut (s' := []) 0 (by omega) rfl rfl [2,4,11,12,13,14,15,18,19] ?_,k + 1,rfl,hlt2,?_,?_,?_,?_,?_,?_,?_,?_,?_,rfl⟩ <;> (try simp only [zU,Nat.reduceBEq,Nat.reduceShiftRight,Nat.reduceMod,Nat.reduceEqDiff,reduceIte])
    ·simp [updE,trimE_app,refsV,h2,h4,h11,h12,h13,h14,h15,h18,i64]
    ·exact h2
    ·exact h4
    ·exact h11
    ·exact h12
    ·exact h13
    ·exact h14
    ·exact h15
    ·exact h18
    ·rw [w64 _ (by omega)]; rfl
   simp only [zX,Nat.reduceShiftRight,Nat.reduceMod,Nat.reduceLT,Nat.reduceMul,Nat.reduceSub,Int.reduceToNat,Int.reduceNeg,Int.reduceLT,Int.reduceLE,Int.reduceEq,Nat.reduceEqDiff,Nat.reduceAdd,Nat.reduceLeDiff,reduceIte,reduceCtorEq,Nat.reduceBEq,i64,bV,iD,bD,h2,h4,h11,h12,h13,h14,h15,h18,h19,Bool.not_true,hR,ne_eq,not_false_eq_true,decide_true,not_true_eq_false,decide_false]
   subst hR
   refine loop_rule (fun n e s=>∃ j : Nat,n=A.length - j∧j≤A.length∧(∀ (i : Nat) (x : Mat),i < j→A[i]?=some x→x.s < sv)∧e 2=i64 at_∧e 4=i64 by'∧e 11=.d (.sl (L.map Prg.cells))∧e 12=.d (intsD t)∧e 13=i64 i∧e 14=.d (.sl (A.map matK))∧e 15=i64 0∧e 18=.fu S∧e 19=i64 k∧e 20=.rf 0 1 0 0∧e 21=bV Rm.isSome∧e 26=i64 j∧s=[⟨1,true,3,[[i64 (optM Rm).s,i64 (optM Rm).e,.d (capD (optM Rm).c)]]⟩,⟨1,true,3,[[i64 (optM Rm).s,i64 (optM Rm).e,.d (capD (optM Rm).c)]]⟩])
    ⟨_,_,_,Cln.refl,0,rfl,by omega,(fun i x h=>absurd h (by omega)),h2,h4,h11,h12,h13,h14,h15,h18,h19,rfl,rfl,rfl,rfl⟩ ?_
   clear hr hf hreal hev hev2 hfi hfi2
   rintro n e s ⟨j,rfl,hj,hlo,h2,h4,h11,h12,h13,h14,h15,h18,h19,h20,h21,h26,rfl⟩
   rcases Nat.lt_or_ge j A.length with hlt3 | hge3
   ·obtain ⟨x,hx⟩ : ∃ x,A[j]?=some x := ⟨_,List.getElem?_eq_getElem hlt3⟩
    have hj' : (j : Int) < (A.length : Int) := by omega
    have hj0 : (0 : Int)≤(j : Int) := by omega
    simp only [zX,Nat.reduceShiftRight,Nat.reduceMod,Nat.reduceLT,Nat.reduceMul,Nat.reduceSub,Int.reduceToNat,Int.reduceNeg,Int.reduceLT,Int.reduceLE,Int.reduceEq,Nat.reduceEqDiff,Nat.reduceAdd,Nat.reduceLeDiff,reduceIte,reduceCtorEq,Nat.reduceBEq,i64,bV,iD,bD,h2,h4,h11,h12,h13,h14,h15,h18,h19,h20,h21,h26,List.length_map]
    refine draw_c mix [] [] (by rfl) ?_
    by_cases hxs : x.s < sv
    ·simp only [zX,Nat.reduceShiftRight,Nat.reduceMod,Nat.reduceLT,Nat.reduceMul,Nat.reduceSub,Int.reduceToNat,Int.reduceNeg,Int.reduceLT,Int.reduceLE,Int.reduceEq,Nat.reduceEqDiff,Nat.reduceAdd,Nat.reduceLeDiff,reduceIte,reduceCtorEq,Nat.reduceBEq,i64,bV,iD,bD,h2,h4,h11,h12,h13,h14,h15,h18,h19,h20,h21,h26,List.length_map,hj',hj0,Int.toNat_natCast,hlt3,hx,matK,hk',hsv,hxs]
     refine ⟨A.length - (j + 1),_,_,by omega,Cln.refl,j + 1,rfl,hlt3,?_,?_,?_,?_,?_,?_,?_,?_,?_,?_,?_,?_,?_,rfl⟩ <;> (try simp only [zU,Nat.reduceBEq,Nat.reduceShiftRight,Nat.reduceMod,Nat.reduceEqDiff,reduceIte])
     ·intro i y hi hy
      rcases Nat.lt_or_ge i j with h | h
      ·exact hlo i y h hy
      ·have : i=j := by omega
       subst this
       rw [hx] at hy
       cases hy
       exact hxs
     ·exact h2
     ·exact h4
     ·exact h11
     ·exact h12
     ·exact h13
     ·exact h14
     ·exact h15
     ·exact h18
     ·exact h19
     ·exact h20
     ·exact h21
     ·rw [w64 _ (by omega)]; rfl
    ·have hRx : Rm=some x := by rw [hl rfl rfl j hj hlo (fun y hy=>by rw [hx] at hy; cases hy; exact hxs)]; exact hx
     subst hRx
     have hq2 := heq x x (hec x (List.mem_of_getElem? hx))
     simp only [decide_true] at hq2
     simp only [zX,Nat.reduceShiftRight,Nat.reduceMod,Nat.reduceLT,Nat.reduceMul,Nat.reduceSub,Int.reduceToNat,Int.reduceNeg,Int.reduceLT,Int.reduceLE,Int.reduceEq,Nat.reduceEqDiff,Nat.reduceAdd,Nat.reduceLeDiff,reduceIte,reduceCtorEq,Nat.reduceBEq,i64,bV,iD,bD,h2,h4,h11,h12,h13,h14,h15,h18,h19,h20,h21,h26,List.length_map,hj',hj0,Int.toNat_natCast,hlt3,hx,matK,hk',hsv,hxs,optM,Option.getD_some,Option.isSome_some]
     refine draw_c mix [] [(9,[0],[])] (by rfl) ?_
     simp only [zX,Nat.reduceShiftRight,Nat.reduceMod,Nat.reduceLT,Nat.reduceMul,Nat.reduceSub,Int.reduceToNat,Int.reduceNeg,Int.reduceLT,Int.reduceLE,Int.reduceEq,Nat.reduceEqDiff,Nat.reduceAdd,Nat.reduceLeDiff,reduceIte,reduceCtorEq,Nat.reduceBEq,i64,bV,iD,bD,h2,h4,h11,h12,h13,h14,h15,h18,h19,h20,h21,h26,List.length_map,hj',hj0,Int.toNat_natCast,hlt3,hx,matK,hk',hsv,optM,Option.getD_some,Option.isSome_some,beq_self_eq_true,Bool.not_true]
     refine callC_pure hq2 rfl rfl ?_
     simp only [zX,Nat.reduceShiftRight,Nat.reduceMod,Nat.reduceLT,Nat.reduceMul,Nat.reduceSub,Int.reduceToNat,Int.reduceNeg,Int.reduceLT,Int.reduceLE,Int.reduceEq,Nat.reduceEqDiff,Nat.reduceAdd,Nat.reduceLeDiff,reduceIte,reduceCtorEq,Nat.reduceBEq,i64,bV,iD,bD,h2,h4,h11,h12,h13,h14,h15,h18,h19,h20,h21,h26,Bool.not_true]
     refine ⟨3 - (k + 1),_,_,by omega,Cln.cut (s' := []) 0 (by omega) rfl rfl [2,4,11,12,13,14,15,18,19] ?_,k + 1,rfl,hlt2,?_,?_,?_,?_,?_,?_,?_,?_,?_,rfl⟩ <;> (try simp only [zU,Nat.reduceBEq,Nat.reduceShiftRight,Nat.reduceMod,Nat.reduceEqDiff,reduceIte])
     ·simp [updE,trimE_app,refsV,h2,h4,h11,h12,h13,h14,h15,h18,i64]
     ·exact h2
     ·exact h4
     ·exact h11
     ·exact h12
     ·exact h13
     ·exact h14
     ·exact h15
     ·exact h18
     ·rw [w64 _ (by omega)]; rfl
   ·have hje : j=A.length := by omega
    subst hje
    have hj' : ¬ (A.length : Int) < (A.length : Int) := by omega
    have hnone : A[A.length]?=none := List.getElem?_eq_none (Nat.le_refl _)
    have hRx : Rm=none := by rw [hl rfl rfl A.length hj hlo (fun y hy=>by rw [hnone] at hy; cases hy)]; exact hnone
    subst hRx
    simp only [zX,Nat.reduceShiftRight,Nat.reduceMod,Nat.reduceLT,Nat.reduceMul,Nat.reduceSub,Int.reduceToNat,Int.reduceNeg,Int.reduceLT,Int.reduceLE,Int.reduceEq,Nat.reduceEqDiff,Nat.reduceAdd,Nat.reduceLeDiff,reduceIte,reduceCtorEq,Nat.reduceBEq,i64,bV,iD,bD,h2,h4,h11,h12,h13,h14,h15,h18,h19,h20,h21,h26,List.length_map,hj',Option.isSome_none]
    refine draw_c mix [] [] (by rfl) ?_
    simp only [zX,Nat.reduceShiftRight,Nat.reduceMod,Nat.reduceLT,Nat.reduceMul,Nat.reduceSub,Int.reduceToNat,Int.reduceNeg,Int.reduceLT,Int.reduceLE,Int.reduceEq,Nat.reduceEqDiff,Nat.reduceAdd,Nat.reduceLeDiff,reduceIte,reduceCtorEq,Nat.reduceBEq,i64,bV,iD,bD,h2,h4,h11,h12,h13,h14,h15,h18,h19,h20,h21,h26,List.length_map,hj',Option.isSome_none]
    refine draw_c mix [] [(9,[0],[])] (by rfl) ?_
    simp only [zX,Nat.reduceShiftRight,Nat.reduceMod,Nat.reduceLT,Nat.reduceMul,Nat.reduceSub,Int.reduceToNat,Int.reduceNeg,Int.reduceLT,Int.reduceLE,Int.reduceEq,Nat.reduceEqDiff,Nat.reduceAdd,Nat.reduceLeDiff,reduceIte,reduceCtorEq,Nat.reduceBEq,i64,bV,iD,bD,h2,h4,h11,h12,h13,h14,h15,h18,h19,h20,h21,h26,List.length_map,hj',Option.isSome_none,beq_self_eq_true,Bool.not_true]
    refine ⟨3 - (k + 1),_,_,by omega,Cln.cut (s' := []) 0 (by omega) rfl rfl [2,4,11,12,13,14,15,18,19] ?_,k + 1,rfl,hlt2,?_,?_,?_,?_,?_,?_,?_,?_,?_,rfl⟩ <;> (try simp only [zU,Nat.reduceBEq,Nat.reduceShiftRight,Nat.reduceMod,Nat.reduceEqDiff,reduceIte])
    ·simp [updE,trimE_app,refsV,h2,h4,h11,h12,h13,h14,h15,h18,i64]
    ·exact h2
    ·exact h4
    ·exact h11
    ·exact h12
    ·exact h13
    ·exact h14
    ·exact h15
    ·exact h18
    ·rw [w64 _ (by omega)]; rfl
  ·have hke : k=3 := by omega
   subst hke
   have hk' : ¬ ((3 : Nat) : Int) < (S.length : Int) := by omega
   simp only [zX,Nat.reduceShiftRight,Nat.reduceMod,Nat.reduceLT,Nat.reduceMul,Nat.reduceSub,Int.reduceToNat,Int.reduceNeg,Int.reduceLT,Int.reduceLE,Int.reduceEq,Nat.reduceEqDiff,Nat.reduceAdd,Nat.reduceLeDiff,reduceIte,reduceCtorEq,Nat.reduceBEq,i64,bV,iD,bD,h2,h4,h11,h12,h13,h14,h15,h18,h19,hk']
   refine ⟨4 - (i + 1),_,_,by omega,Cln.refl,i + 1,rfl,hlt,?_,?_,?_,?_,?_,rfl⟩ <;> (try simp only [zU,Nat.reduceBEq,Nat.reduceShiftRight,Nat.reduceMod,Nat.reduceEqDiff,reduceIte])
   ·exact h2
   ·exact h4
   ·exact h11
   ·exact h12
   ·rw [w64 _ (by omega)]; rfl
 ·have hie : i=4 := by omega
  subst hie
  have hlt' : ¬ ((4 : Nat) : Int) < (L.length : Int) := by omega
  simp only [zX,Nat.reduceShiftRight,Nat.reduceMod,Nat.reduceLT,Nat.reduceMul,Nat.reduceSub,Int.reduceToNat,Int.reduceNeg,Int.reduceLT,Int.reduceLE,Int.reduceEq,Nat.reduceEqDiff,Nat.reduceAdd,Nat.reduceLeDiff,reduceIte,reduceCtorEq,Nat.reduceBEq,i64,bV,iD,bD,h2,h4,h11,h12,h13,hlt',w1,List.length_map,intsD]
  refine call_pure hlv rfl rfl ?_
  simp only [zX,Nat.reduceShiftRight,Nat.reduceMod,Nat.reduceLT,Nat.reduceMul,Nat.reduceSub,Int.reduceToNat,Int.reduceNeg,Int.reduceLT,Int.reduceLE,Int.reduceEq,Nat.reduceEqDiff,Nat.reduceAdd,Nat.reduceLeDiff,reduceIte,reduceCtorEq,Nat.reduceBEq,i64,bV,iD,bD]
end Go.Proofs.Ytdofoappodmcoaa
