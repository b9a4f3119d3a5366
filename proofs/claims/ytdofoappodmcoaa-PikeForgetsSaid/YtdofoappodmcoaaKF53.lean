/- A part of the proof (K87). -/
import Derived.Test.YtdofoappodmcoaaKF7
import Derived.Test.YtdofoappodmcoaaKF52
import Derived.Test.YtdofoappodmcoaaKF49
import Derived.Test.YtdofoappodmcoaaKF39
import Derived.Test.YtdofoappodmcoaaKF50
import Derived.Test.YtdofoappodmcoaaKF51
set_option linter.unusedSimpArgs false
set_option linter.unusedVariables false
set_option maxRecDepth 100000
set_option maxHeartbeats 80000000
namespace Go.Proofs.Ytdofoappodmcoaa
open Go.VL Go.Proofs.Try
theorem chk_zero {g : Prg} {t : List Int} {a : Int} (h : prgE g=0) (ht : t.length≤65536) (h0 : 0≤a) (h1 : a≤t.length) : chkE g t a=0 := by
 unfold chkE
 rw [if_neg (by simp [h]),if_neg (by omega),if_neg (by omega)]
theorem runR_e (g : Prg) (t : List Int) (s B : Int) : ∀ (k : Nat) (l : RList) (b : Option Mat),0≤l.at_→l.at_ + k≤B→0≤(optM b).e∧(optM b).e≤B→0≤(optM (runR g t s k l b)).e∧(optM (runR g t s k l b)).e≤B
 | 0,_,_,_,_,h=>h
 | k + 1,l,b,h0,h1,h=>by
  have hb : 0≤(optM (bestR g s l b)).e∧(optM (bestR g s l b)).e≤B := by
   unfold bestR
   split
   ·exact ⟨h0,by show l.at_≤B; omega⟩
   ·exact h
  rw [runR]
  split
  ·exact hb
  ·exact runR_e g t s B k _ _ (by show 0≤l.at_ + 1; omega) (by show l.at_ + 1 + (k : Int)≤B; omega) hb
theorem pikeForgetsL_ok (l : List Int) (hl : ∀ x ∈ l,I64 x) (m : List Int) (hm : ∀ x ∈ m,I64 x) (o : List Int) (ho : ∀ x ∈ o,I64 x) (at_ : Int) (ha : I64 at_) :
  PureOK prog 6 [.d (intsD l),.d (intsD m),.d (intsD o),i64 at_] (bV true) := by
 obtain ⟨p,t,hplain,hP,hcomp,hnaP⟩ := plainA_ok l m hl hm
 have hcsz := hP.csz
 have hvalid := compR_valid p hP.valid hcomp (by omega)
 have hcmp := prgCompile_ok p hP.valid hcomp (by omega)
 have hgood := compR_good hP hcomp
 have hna := compR_na hnaP
 have htl := hP.len
 have hlv := lives11_ok
 have har := around_ok at_ ((t.length : Int) + 1) (by omega) ha
 have harr := around_range at_ ((t.length : Int) + 1) (by omega) ha
 have w1 : IntKind.i64.wrap ((t.length : Int) + 1)=(t.length : Int) + 1 := w64 _ (by omega)
 have hgl := hgood.len1
 have hgset : ∀ x ∈ (compR p).ins,x.set.length≤1000000000 := fun x hx=>by have := hgood.sets x hx; omega
 generalize compR p=g at *
 obtain ⟨n,hn⟩ : ∃ n : Nat,around at_ ((t.length : Int) + 1)=n := ⟨(around at_ ((t.length : Int) + 1)).toNat,by omega⟩
 rw [hn] at har harr
 have htxt := text_ok o ho 9 (by omega)
 have htxo := text_own o ho 9 (by omega)
 have hol : (textR o 9).length≤9 := by simp [textR]; omega
 generalize textR o 9=u at *
 have hthr := fun (t' : List Int) (ht' : t'.length≤65536) (a b : Int) (h0 : 0≤a) (h1 : a≤b) (h2 : b≤t'.length)=>by
  have := pThreads_ok g (by omega) hgset t' (by omega) a b
  rw [thrX_E,thrX,if_neg (by simp [hvalid]),if_neg (by omega),if_neg (by omega)] at this
  exact this
 have hrun := fun (t' : List Int) (ht' : t'.length≤65536) (a : Int) (h0 : 0≤a) (h1 : a≤t'.length)=>by
  have := pikeRun_ok g (by omega) hgset t' (by omega) a
  rw [runE,if_pos (chk_zero hvalid ht' h0 h1)] at this
  exact this
 have hcaps := fun (t' : List Int) (ht' : t'.length≤65536) (a : Int) (h0 : 0≤a) (h1 : a≤t'.length)=>by
  have := runE_caps g t' a
  rw [runE,if_pos (chk_zero hvalid ht' h0 h1)] at this
  exact this
 have hthr1 := hthr t (by omega) 0 n (by omega) (by omega) (by omega)
 have hrun1 := hrun t (by omega) 0 (by omega) (by omega)
 have hol2 : (t.take n ++ u).length≤65536 := by rw [List.length_append,List.length_take]; omega
 have hrun2 := hrun (t.take n ++ u) hol2 0 (by omega) (by omega)
 have hml : ((u ++ t).length : Int)=u.length + t.length := by rw [List.length_append]; omega
 have hthr3 := hthr (u ++ t) (by omega) u.length (u.length + n) (by omega) (by omega) (by omega)
 have hrun3 := hrun (u ++ t) (by omega) u.length (by omega) (by omega)
 rw [thr0_moved hna t u n (by omega)] at hthr3
 have hfor := run0_forget hna t u n (by omega)
 have hmov := run0_moved hna t u
 have hcap1 : (optM (run0 g t 0)).c.length≤9 := hcaps t (by omega) 0 (by omega) (by omega)
 have heq := equal_ok (optM (run0 g t 0)) (optM (run0 g t 0)) (by omega)
 have hAl : (thr0 g t 0 n).length≤1000000 := by
  obtain ⟨b1,b2⟩ := begin_th g hgood t 0
  unfold thr0
  rw [List.length_map]
  exact Nat.le_trans (cutR_len g _) (iter_th g hgood t _ _ b1 b2).2
 have hsame := sameInts_ok (thr0 g t 0 n) (thr0 g t 0 n) (by omega)
 simp only [decide_true] at heq hsame
 have hre : 0≤(optM (run0 g t 0)).e∧(optM (run0 g t 0)).e≤1000 := runR_e g t 0 1000 _ _ none (Int.le_refl _) (by show (0 : Int) + _≤_; omega) (by simp [optM])
 generalize hR1 : run0 g t 0=r1 at *
 generalize hR2 : run0 g (t.take n ++ u) 0=r2 at *
 generalize hR3 : run0 g (u ++ t) u.length=r3 at *
 generalize hA : thr0 g t 0 n=A at *
 clear hthr hrun hcaps hR1 hR2 hR3 hA hgset hgood hna hnaP hcomp hvalid
 cases p with
 | mk re caps runes =>
 simp only [patV,Re.cells_eq re,List.map_cons,List.map_nil,List.cons_append,List.nil_append,prgV_eq,i64,iD,bD,bV,Mat.v] at hplain hcmp hlv har htxt htxo hthr1 hrun1 hrun2 hthr3 hrun3 heq hsame
 refine fn_ok func6 rfl ntmps6 results6 rfl 0 1073741583 (by simp) (by simp) ?_
 simp only [zX,Nat.reduceShiftRight,Nat.reduceMod,Nat.reduceLT,Nat.reduceMul,Nat.reduceSub,Int.reduceToNat,Int.reduceNeg,Int.reduceLT,Int.reduceLE,Int.reduceEq,Nat.reduceEqDiff,Nat.reduceAdd,Nat.reduceLeDiff,reduceIte,reduceCtorEq,Nat.reduceBEq,i64,bV,iD,bD]
 refine call_pure hplain rfl rfl ?_
 simp only [zX,Nat.reduceShiftRight,Nat.reduceMod,Nat.reduceLT,Nat.reduceMul,Nat.reduceSub,Int.reduceToNat,Int.reduceNeg,Int.reduceLT,Int.reduceLE,Int.reduceEq,Nat.reduceEqDiff,Nat.reduceAdd,Nat.reduceLeDiff,reduceIte,reduceCtorEq,Nat.reduceBEq,i64,bV,iD,bD]
 refine call_pure hcmp rfl rfl ?_
 simp only [zX,Nat.reduceShiftRight,Nat.reduceMod,Nat.reduceLT,Nat.reduceMul,Nat.reduceSub,Int.reduceToNat,Int.reduceNeg,Int.reduceLT,Int.reduceLE,Int.reduceEq,Nat.reduceEqDiff,Nat.reduceAdd,Nat.reduceLeDiff,reduceIte,reduceCtorEq,Nat.reduceBEq,i64,bV,iD,bD,ne_eq,not_true_eq_false,intsD,List.length_map,w1]
 refine call_pure har rfl rfl ?_
 simp only [zX,Nat.reduceShiftRight,Nat.reduceMod,Nat.reduceLT,Nat.reduceMul,Nat.reduceSub,Int.reduceToNat,Int.reduceNeg,Int.reduceLT,Int.reduceLE,Int.reduceEq,Nat.reduceEqDiff,Nat.reduceAdd,Nat.reduceLeDiff,reduceIte,reduceCtorEq,Nat.reduceBEq,i64,bV,iD,bD]
 refine call_pure hthr1 rfl rfl ?_
 simp only [zX,Nat.reduceShiftRight,Nat.reduceMod,Nat.reduceLT,Nat.reduceMul,Nat.reduceSub,Int.reduceToNat,Int.reduceNeg,Int.reduceLT,Int.reduceLE,Int.reduceEq,Nat.reduceEqDiff,Nat.reduceAdd,Nat.reduceLeDiff,reduceIte,reduceCtorEq,Nat.reduceBEq,i64,bV,iD,bD]
 refine call_pure hrun1 rfl rfl ?_
 have htk : (List.map (fun x=>[D.sc (Value.int IntKind.i64 x)]) t).take n=List.map (fun x=>[D.sc (Value.int IntKind.i64 x)]) (t.take n) := List.map_take.symm
 have hn1 : (n : Int)≤t.length := by omega
 simp only [zX,Nat.reduceShiftRight,Nat.reduceMod,Nat.reduceLT,Nat.reduceMul,Nat.reduceSub,Int.reduceToNat,Int.reduceNeg,Int.reduceLT,Int.reduceLE,Int.reduceEq,Nat.reduceEqDiff,Nat.reduceAdd,Nat.reduceLeDiff,reduceIte,reduceCtorEq,Nat.reduceBEq,i64,bV,iD,bD,Int.sub_zero,Int.toNat_natCast,htk,List.length_map,hn1,List.nil_append,List.map_nil]
 refine ⟨fun e he=>by obtain ⟨x,hx,rfl⟩ := List.mem_map.1 he; obtain ⟨y,_,rfl⟩ := List.mem_map.1 hx; rfl,⟨by rw [List.length_take]; omega,fun e he=>by cases he⟩,?_⟩
 refine call_pure htxt rfl rfl ?_
 simp only [zX,Nat.reduceShiftRight,Nat.reduceMod,Nat.reduceLT,Nat.reduceMul,Nat.reduceSub,Int.reduceToNat,Int.reduceNeg,Int.reduceLT,Int.reduceLE,Int.reduceEq,Nat.reduceEqDiff,Nat.reduceAdd,Nat.reduceLeDiff,reduceIte,reduceCtorEq,Nat.reduceBEq,i64,bV,iD,bD,List.length_map]
 refine ⟨fun e he=>by obtain ⟨x,hx,rfl⟩ := List.mem_map.1 he; obtain ⟨y,_,rfl⟩ := List.mem_map.1 hx; rfl,⟨by omega,by rw [List.length_take]; omega⟩,?_⟩
 have hE : List.take (0 + (List.take n t).length) (List.map (fun x=>List.map V.d x) (List.map (fun x=>[D.sc (Value.int IntKind.i64 x)]) (List.take n t))) ++ List.map (fun x=>List.map V.d x) (List.map (fun x=>[D.sc (Value.int IntKind.i64 x)]) u)=((t.take n ++ u).map fun x=>[D.sc (Value.int IntKind.i64 x)]).map fun c=>c.map V.d := by
  rw [List.take_of_length_le (by simp)]; simp
 have hN : 0 + (List.take n t).length + u.length=(t.take n ++ u).length := by rw [List.length_append]; omega
 rw [hE,hN]
 generalize t.take n ++ u=t2 at *
 refine call_give (cargs := [prgV g,.d (intsD t2),i64 0]) [3] ?_ ?_
 ·simp only [killO,kill1,List.getElem?_cons_succ,List.getElem?_cons_zero,List.set_cons_succ,List.set_cons_zero,List.length_cons,List.length_nil,frzV.go]
  rw [frz_ownK (ds := t2.map fun x=>[D.sc (Value.int IntKind.i64 x)]) rfl (by rw [List.drop_zero,List.take_of_length_le (by simp)]) (by simp) (.inr rfl)]
  simp [frzV,frzV.go,frzD,prgV_eq,i64,iD,bD,intsD]
 simp only [killO,kill1,List.getElem?_cons_succ,List.getElem?_cons_zero,List.set_cons_succ,List.set_cons_zero,prgV_eq,i64,iD,bD,intsD]
 refine call_pure hrun2 rfl rfl ?_
 simp only [zX,Nat.reduceShiftRight,Nat.reduceMod,Nat.reduceLT,Nat.reduceMul,Nat.reduceSub,Int.reduceToNat,Int.reduceNeg,Int.reduceLT,Int.reduceLE,Int.reduceEq,Nat.reduceEqDiff,Nat.reduceAdd,Nat.reduceLeDiff,reduceIte,reduceCtorEq,Nat.reduceBEq,i64,bV,iD,bD]
 have hTl : List.take u.length (List.map (fun c=>List.map V.d c) (List.map (fun x=>[D.sc (Value.int IntKind.i64 x)]) u)) ++ List.map (fun c=>List.map V.d c) (List.map (fun x=>[D.sc (Value.int IntKind.i64 x)]) t)=((u ++ t).map fun x=>[D.sc (Value.int IntKind.i64 x)]).map fun c=>c.map V.d := by
  rw [List.take_of_length_le (by simp)]; simp
 have hwk : IntKind.i64.wrap (((u.length + t.length : Nat) : Int) - t.length)=u.length := by rw [w64 _ (by omega)]; omega
 have hwn : IntKind.i64.wrap ((u.length : Int) + n)=u.length + n := w64 _ (by omega)
 have hNm : u.length + t.length=(u ++ t).length := by rw [List.length_append]
 have hwe : IntKind.i64.wrap ((optM r1).e + u.length)=(optM r1).e + u.length := w64 _ (by omega)
 obtain ⟨b1,b2⟩ := hmov
 have b1' := b1.symm
 have hsplit : (A.length : Int) ≠ 0 ∨ (A.length : Int)=0 := by omega
 rcases hsplit with hA0 | hA0
 all_goals first
  |(have hA1 : ¬ (A.length : Int)=0 := hA0; simp only [zX,Nat.reduceShiftRight,Nat.reduceMod,Nat.reduceLT,Nat.reduceMul,Nat.reduceSub,Int.reduceToNat,Int.reduceNeg,Int.reduceLT,Int.reduceLE,Int.reduceEq,Nat.reduceEqDiff,Nat.reduceAdd,Nat.reduceLeDiff,reduceIte,reduceCtorEq,Nat.reduceBEq,i64,bV,iD,bD,hA1,ne_eq,not_true_eq_false,decide_false,Bool.false_eq_true])
  |(have hr := hfor (List.eq_nil_of_length_eq_zero (by omega)); subst hr; simp only [zX,Nat.reduceShiftRight,Nat.reduceMod,Nat.reduceLT,Nat.reduceMul,Nat.reduceSub,Int.reduceToNat,Int.reduceNeg,Int.reduceLT,Int.reduceLE,Int.reduceEq,Nat.reduceEqDiff,Nat.reduceAdd,Nat.reduceLeDiff,reduceIte,reduceCtorEq,Nat.reduceBEq,i64,bV,iD,bD,hA0,ne_eq,not_true_eq_false,decide_false,beq_self_eq_true,Bool.not_true,Bool.false_eq_true]; refine call_pure heq rfl rfl ?_; simp only [zX,Nat.reduceShiftRight,Nat.reduceMod,Nat.reduceLT,Nat.reduceMul,Nat.reduceSub,Int.reduceToNat,Int.reduceNeg,Int.reduceLT,Int.reduceLE,Int.reduceEq,Nat.reduceEqDiff,Nat.reduceAdd,Nat.reduceLeDiff,reduceIte,reduceCtorEq,Nat.reduceBEq,i64,bV,iD,bD,Bool.not_true,Bool.false_eq_true])
 all_goals
  refine htxo.call rfl rfl (fun g0=>?_)
  simp only [zX,Nat.reduceShiftRight,Nat.reduceMod,Nat.reduceLT,Nat.reduceMul,Nat.reduceSub,Int.reduceToNat,Int.reduceNeg,Int.reduceLT,Int.reduceLE,Int.reduceEq,Nat.reduceEqDiff,Nat.reduceAdd,Nat.reduceLeDiff,reduceIte,reduceCtorEq,Nat.reduceBEq,i64,bV,iD,bD,List.length_map]
  refine ⟨fun e he=>by obtain ⟨x,hx,rfl⟩ := List.mem_map.1 he; obtain ⟨y,_,rfl⟩ := List.mem_map.1 hx; rfl,⟨by omega,by omega⟩,?_⟩
  rw [hTl,hwk,hwn,hNm]
  generalize u ++ t=t3 at *
  refine call_give (cargs := [prgV g,.d (intsD t3),i64 u.length,i64 (u.length + n)]) [5] ?_ ?_
  ·simp only [killO,kill1,List.getElem?_cons_succ,List.getElem?_cons_zero,List.set_cons_succ,List.set_cons_zero,List.length_cons,List.length_nil,frzV.go]
   rw [frz_ownK (ds := t3.map fun x=>[D.sc (Value.int IntKind.i64 x)]) rfl (by rw [List.drop_zero,List.take_of_length_le (by simp)]) (by simp) (.inr rfl)]
   simp [frzV,frzV.go,frzD,prgV_eq,i64,iD,bD,intsD]
  simp only [killO,kill1,List.getElem?_cons_succ,List.getElem?_cons_zero,List.set_cons_succ,List.set_cons_zero,prgV_eq,i64,iD,bD,intsD]
  refine call_pure hthr3 rfl rfl ?_
  simp only [zX,Nat.reduceShiftRight,Nat.reduceMod,Nat.reduceLT,Nat.reduceMul,Nat.reduceSub,Int.reduceToNat,Int.reduceNeg,Int.reduceLT,Int.reduceLE,Int.reduceEq,Nat.reduceEqDiff,Nat.reduceAdd,Nat.reduceLeDiff,reduceIte,reduceCtorEq,Nat.reduceBEq,i64,bV,iD,bD]
  refine call_give (cargs := [prgV g,.d (intsD t3),i64 u.length]) [] ?_ ?_
  ·simp only [killO,List.length_cons,List.length_nil,frzV.go]
   rw [frz_ownK (ds := t3.map fun x=>[D.sc (Value.int IntKind.i64 x)]) rfl (by rw [List.drop_zero,List.take_of_length_le (by simp)]) (by simp) (.inr rfl)]
   simp [frzV,frzV.go,frzD,prgV_eq,i64,iD,bD,intsD]
  simp only [killO,prgV_eq,i64,iD,bD,intsD]
  refine call_pure hrun3 rfl rfl ?_
  simp only [zX,Nat.reduceShiftRight,Nat.reduceMod,Nat.reduceLT,Nat.reduceMul,Nat.reduceSub,Int.reduceToNat,Int.reduceNeg,Int.reduceLT,Int.reduceLE,Int.reduceEq,Nat.reduceEqDiff,Nat.reduceAdd,Nat.reduceLeDiff,reduceIte,reduceCtorEq,Nat.reduceBEq,i64,bV,iD,bD]
  refine call_pure hsame rfl rfl ?_
  simp only [zX,Nat.reduceShiftRight,Nat.reduceMod,Nat.reduceLT,Nat.reduceMul,Nat.reduceSub,Int.reduceToNat,Int.reduceNeg,Int.reduceLT,Int.reduceLE,Int.reduceEq,Nat.reduceEqDiff,Nat.reduceAdd,Nat.reduceLeDiff,reduceIte,reduceCtorEq,Nat.reduceBEq,i64,bV,iD,bD,b1',beq_self_eq_true]
  cases hsm : r1.isSome with
  | false =>
   simp only [zX,Nat.reduceShiftRight,Nat.reduceMod,Nat.reduceLT,Nat.reduceMul,Nat.reduceSub,Int.reduceToNat,Int.reduceNeg,Int.reduceLT,Int.reduceLE,Int.reduceEq,Nat.reduceEqDiff,Nat.reduceAdd,Nat.reduceLeDiff,reduceIte,reduceCtorEq,Nat.reduceBEq,i64,bV,iD,bD,hsm,Bool.not_false]
   refine call_pure hlv rfl rfl ?_
   simp only [zX,Nat.reduceShiftRight,Nat.reduceMod,Nat.reduceLT,Nat.reduceMul,Nat.reduceSub,Int.reduceToNat,Int.reduceNeg,Int.reduceLT,Int.reduceLE,Int.reduceEq,Nat.reduceEqDiff,Nat.reduceAdd,Nat.reduceLeDiff,reduceIte,reduceCtorEq,Nat.reduceBEq,i64,bV,iD,bD]
  | true =>
   have he := b2 hsm
   simp only [zX,Nat.reduceShiftRight,Nat.reduceMod,Nat.reduceLT,Nat.reduceMul,Nat.reduceSub,Int.reduceToNat,Int.reduceNeg,Int.reduceLT,Int.reduceLE,Int.reduceEq,Nat.reduceEqDiff,Nat.reduceAdd,Nat.reduceLeDiff,reduceIte,reduceCtorEq,Nat.reduceBEq,i64,bV,iD,bD,hsm,Bool.not_true,he,hwe,decide_true]
   refine call_pure hlv rfl rfl ?_
   simp only [zX,Nat.reduceShiftRight,Nat.reduceMod,Nat.reduceLT,Nat.reduceMul,Nat.reduceSub,Int.reduceToNat,Int.reduceNeg,Int.reduceLT,Int.reduceLE,Int.reduceEq,Nat.reduceEqDiff,Nat.reduceAdd,Nat.reduceLeDiff,reduceIte,reduceCtorEq,Nat.reduceBEq,i64,bV,iD,bD]
end Go.Proofs.Ytdofoappodmcoaa
