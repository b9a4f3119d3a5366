/- A part of the proof (K86). -/
import Derived.Test.YtdofoappodmcoaaKF31
import Derived.Test.YtdofoappodmcoaaKF8
set_option linter.unusedSimpArgs false
set_option linter.unusedVariables false
set_option maxRecDepth 100000
set_option maxHeartbeats 80000000
namespace Go.Proofs.Ytdofoappodmcoaa
open Go.VL Go.Proofs.Try
def txtO (g i : Nat) (l : List Int) : VL.Obj := ⟨g,true,1,((List.range i).map fun i : Nat=>textSyms.getD (pick l i 12).toNat 0).map fun x=>[i64 x]⟩
theorem text_own (l : List Int) (hl : ∀ x ∈ l,I64 x) (most : Int) (hm : most≤1000000) : OwnSl prog 27 [.d (intsD l),i64 most] 1 ((textR l most).map fun x=>[iD x]) := by
 unfold OwnSl
 have hfin : ∀ (g : Nat) (s : List VL.Obj),s=[txtO g (min l.length most.toNat) l]→ownWp 0 s (.so 0 g 0 (min l.length most.toNat)) fun v s1=>∃ g,v=.so 0 g 0 (textR l most).length∧s1=[⟨g,true,1,(List.map (fun x=>[iD x]) (textR l most)).map fun c=>c.map V.d⟩] := by
  rintro g s rfl
  exact own_exit (id := 0) (by rfl) (by simp [textR,iD,i64]) (by simp [textR])
 refine fn_own func27 rfl ntmps27 results27 rfl 0 115 (by simp) (by simp) ?_
 simp only [zX,Nat.reduceShiftRight,Nat.reduceMod,Nat.reduceLT,Nat.reduceMul,Nat.reduceSub,Int.reduceToNat,Int.reduceNeg,Int.reduceLT,Int.reduceLE,Int.reduceEq,Nat.reduceEqDiff,Nat.reduceAdd,Nat.reduceLeDiff,reduceIte,reduceCtorEq,Nat.reduceBEq,i64]
 refine loop_rule (fun m e s=>∃ i g : Nat,m=min l.length most.toNat - i∧i≤min l.length most.toNat∧e 0=.d (intsD l)∧e 1=i64 most∧e 5=.so 0 g 0 i∧e 6=i64 i∧s=[txtO g i l])
  ⟨_,_,_,.of0 (reserveSlot 5 1 rfl),0,0,rfl,by omega,rfl,rfl,rfl,rfl,rfl⟩ ?_
 rintro m e s ⟨i,g,rfl,hi,h0,h1,h5,h6,rfl⟩
 have hp := pick_ok l hl i 12 (by omega)
 have hpr := pick_range l i 12 (by omega)
 simp only [i64] at hp
 by_cases c1 : (i : Int) < l.length
 case neg =>
  have hie : i=min l.length most.toNat := by omega
  have hf := hfin g [txtO g i l] (by rw [hie])
  rw [← hie] at hf
  simp only [zX,Nat.reduceShiftRight,Nat.reduceMod,Nat.reduceLT,Nat.reduceMul,Nat.reduceSub,Int.reduceToNat,Int.reduceNeg,Int.reduceLT,Int.reduceLE,Int.reduceEq,Nat.reduceEqDiff,Nat.reduceAdd,Nat.reduceLeDiff,reduceIte,reduceCtorEq,Nat.reduceBEq,i64,intsD,h0,h1,h5,h6,c1,List.length_map,Qown]
  exact hf
 by_cases c2 : (i : Int) < most
 case neg =>
  have hie : i=min l.length most.toNat := by omega
  have hf := hfin g [txtO g i l] (by rw [hie])
  rw [← hie] at hf
  simp only [zX,Nat.reduceShiftRight,Nat.reduceMod,Nat.reduceLT,Nat.reduceMul,Nat.reduceSub,Int.reduceToNat,Int.reduceNeg,Int.reduceLT,Int.reduceLE,Int.reduceEq,Nat.reduceEqDiff,Nat.reduceAdd,Nat.reduceLeDiff,reduceIte,reduceCtorEq,Nat.reduceBEq,i64,intsD,h0,h1,h5,h6,c1,c2,List.length_map,Qown]
  exact hf
 simp only [zX,Nat.reduceShiftRight,Nat.reduceMod,Nat.reduceLT,Nat.reduceMul,Nat.reduceSub,Int.reduceToNat,Int.reduceNeg,Int.reduceLT,Int.reduceLE,Int.reduceEq,Nat.reduceEqDiff,Nat.reduceAdd,Nat.reduceLeDiff,reduceIte,reduceCtorEq,Nat.reduceBEq,i64,h0,h1,h5,h6,c1,c2]
 refine call_pure hp rfl rfl ?_
 have hcases : pick l i 12=0 ∨ pick l i 12=1 ∨ pick l i 12=2 ∨ pick l i 12=3 ∨ pick l i 12=4 ∨ pick l i 12=5 ∨ pick l i 12=6 ∨ pick l i 12=7 ∨ pick l i 12=8 ∨ pick l i 12=9 ∨ pick l i 12=10 ∨ pick l i 12=11 := by omega
 have go : ∀ (z : Int),textSyms.getD (pick l i 12).toNat 0=z→(⟨g + 1,true,1,List.take i (txtO g i l).els ++ [[.d (.sc (.int .i64 z))]]⟩ : VL.Obj)=txtO (g + 1) (i + 1) l := by
  intro z hz
  have : List.take i (txtO g i l).els=(txtO g i l).els := List.take_of_length_le (by simp [txtO])
  rw [this]
  unfold txtO
  rw [List.range_succ,List.map_append,List.map_append,List.map_cons,List.map_nil,hz]
  rfl
 have hel : (txtO g i l).els.length=i := by simp [txtO]
 have hg : (txtO g i l).g=g := rfl
 have hsz : (txtO g i l).sz=1 := rfl
 have hlv : (txtO g i l).live=true := rfl
 rcases hcases with q | q | q | q | q | q | q | q | q | q | q | q
 all_goals
  rw [q] at go ⊢
  simp only [zX,Nat.reduceShiftRight,Nat.reduceMod,Nat.reduceLT,Nat.reduceMul,Nat.reduceSub,Int.reduceToNat,Int.reduceNeg,Int.reduceLT,Int.reduceLE,Int.reduceEq,Nat.reduceEqDiff,Nat.reduceAdd,Nat.reduceLeDiff,reduceIte,reduceCtorEq,Nat.reduceBEq,i64,h0,h1,h5,h6,Int.toNat_zero,Int.toNat_one,hel,hg,hsz,hlv]
  refine ⟨by omega,fun e he=>by rw [List.mem_singleton.1 he]; rfl,⟨by omega,by omega⟩,min l.length most.toNat - (i + 1),_,_,by omega,Cln.refl,i + 1,g + 1,rfl,by omega,?_,?_,?_,?_,congrArg (fun o=>[o]) (go _ rfl)⟩ <;> (try simp only [zU,Nat.reduceBEq,Nat.reduceShiftRight,Nat.reduceMod,Nat.reduceEqDiff,reduceIte])
  ·exact h0
  ·exact h1
  ·rw [w64 _ (by omega)]; rfl
end Go.Proofs.Ytdofoappodmcoaa
