/- A part of the proof (K12). -/
import Derived.Test.YtdofoappodmcoaaKS16
import Derived.Test.YtdofoappodmcoaaKS27
import Derived.Test.YtdofoappodmcoaaKS25
set_option linter.unusedSimpArgs false
set_option linter.unusedVariables false
set_option maxRecDepth 100000
set_option maxHeartbeats 80000000
namespace Go.Proofs.Ytdofoappodmcoaa
open Go.VL Go.Proofs.Try
structure Prg.small (g : Prg) (c : Nat) : Prop where
 len : g.ins.length≤c
 sets : ∀ i ∈ g.ins,i.set.length≤c
def someO (v : V) (c : Int) (r : Bool) : VL.Obj := ⟨0,true,3,[[v,i64 c,bV r]]⟩
def insArr (g : Nat) (l : List Ins) : VL.Obj := ⟨g,true,5,(l.map Ins.cells).map fun c=>c.map V.d⟩
def zeroPO : VL.Obj := ⟨0,true,3,[[.fu [],i64 0,bV false]]⟩
theorem insArr_ok (n g : Nat) (l : List Ins) : objOk n (insArr g l)=true := by
 unfold objOk insArr
 rw [List.all_eq_true]
 intro e he
 obtain ⟨c,hc,rfl⟩ := List.mem_map.1 he
 rw [List.all_eq_true]
 intro x hx
 obtain ⟨d,_,rfl⟩ := List.mem_map.1 hx
 rfl
theorem insTake (l : List Ins) (n : Nat) (h : l.length≤n) : List.take n ((l.map Ins.cells).map fun c=>c.map V.d)=(l.map Ins.cells).map fun c=>c.map V.d := List.take_of_length_le (by simpa using h)
def someJ (k n cp i : Int) : Ins :=
 if k.tmod 8=0 ∨ k.tmod 8=1 ∨ k.tmod 8=2 then (if (k.tdiv 8).tmod 5=4 then ⟨1,0,0,0,[]⟩ else ⟨1,0,0,0,[(97,97 + (k.tdiv 8).tmod 3)]⟩)
 else if k.tmod 8=3 ∨ k.tmod 8=4 then (if (k.tdiv 16).tmod 3=0 then ⟨2,(k.tdiv 8).tmod n,(i + 1).tmod n,0,[]⟩ else ⟨2,(i + 1).tmod n,(k.tdiv 8).tmod n,0,[]⟩)
 else if k.tmod 8=5 then ⟨3,(k.tdiv 8).tmod n,0,0,[]⟩
 else if k.tmod 8=6 then (if 0 < cp then ⟨4,0,0,(k.tdiv 8).tmod (2 * cp),[]⟩ else ⟨0,0,0,0,[]⟩)
 else if 0 < (k.tdiv 8).tmod 3 then ⟨5,0,0,(k.tdiv 8).tmod 6,[]⟩ else ⟨0,0,0,0,[]⟩
def someI (k n cp i : Int) : Ins := if i + 1=n∧((someJ k n cp i).op=1 ∨ 4≤(someJ k n cp i).op) then ⟨0,0,0,0,[]⟩ else someJ k n cp i
theorem someI_set (k n cp i : Int) : (someI k n cp i).set.length≤20 := by
 have h : (someJ k n cp i).set.length≤20 := by
  unfold someJ
  (repeat' split) <;> simp
 unfold someI
 split
 ·simp
 ·exact h
theorem some_ok (l : List Int) (hl : ∀ x ∈ l,I64 x) : ∃ g : Prg,PureOK prog 32 [.d (intsD l)] (prgV g)∧g.small 20 := by
 have hp := fun i m h=>pick_ok l hl i m h
 have hr := fun i m h=>pick_range l i m h
 have h0 := hp 0 12 (by omega)
 have h1 := hp 1 3 (by omega)
 have h2 := hp 2 3 (by omega)
 have r0 := hr 0 12 (by omega)
 have r1 := hr 1 3 (by omega)
 generalize pick l 0 12=n0 at *
 generalize pick l 1 3=cp at *
 generalize pick l 2 3=rn at *
 have w1 : IntKind.i64.wrap (1 + n0)=1 + n0 := w64 _ (by omega)
 have w2 : IntKind.i64.wrap (1 + n0 - 1)=n0 := by rw [w64 _ (by omega)]; omega
 have wc : IntKind.i64.wrap (2 * cp)=2 * cp := w64 _ (by omega)
 have nz : ¬ 1 + n0=0 := by omega
 simp only [i64] at h0 h1 h2
 refine ⟨⟨(List.range (1 + n0).toNat).map fun j : Nat=>someI (pick l (3 + (j : Int)) 1048576) (1 + n0) cp j,cp,decide (rn=0)⟩,?_,⟨by simp; omega,fun x hx=>by obtain ⟨j,_,rfl⟩ := List.mem_map.1 hx; exact someI_set _ _ _ _⟩⟩
 refine fn_ok func32 rfl ntmps32 results32 rfl 0 9007336962130173 (by simp) (by simp) ?_
 simp only [zX,simprocAttr,i64,bV]
 refine call_pure h0 rfl rfl ?_
 simp only [zX,simprocAttr,i64,bV,w1]
 refine call_pure h1 rfl rfl ?_
 simp only [zX,simprocAttr,i64,bV]
 refine call_pure h2 rfl rfl ?_
 simp only [zX,simprocAttr,i64,bV]
 refine loop_rule (fun m e s=>∃ (i g : Nat) (L : List Ins),m=(1 + n0).toNat - i∧(i : Int)≤1 + n0∧L.length=i∧L=((List.range i).map fun j : Nat=>someI (pick l (3 + (j : Int)) 1048576) (1 + n0) cp j)∧e 0=.d (intsD l)∧e 2=.rf 0 0 0 0∧e 3=i64 (1 + n0)∧e 4=.rf 1 0 0 0∧e 5=i64 i∧s=[zeroPO,someO (.so 2 g 0 i) cp (decide (rn=0)),insArr g L])
  ⟨_,_,_,.of0 (reserveCell (pre := []) 1 5 rfl rfl rfl),0,0,[],rfl,by omega,rfl,rfl,rfl,rfl,rfl,rfl,rfl,rfl⟩ ?_
 rintro m e s ⟨i,g,L,rfl,hi,hL,hset,e0,e2,e3,e4,e5,rfl⟩
 by_cases hlt : (i : Int) < 1 + n0
 ·have w3 : IntKind.i64.wrap (3 + (i : Int))=3 + i := w64 _ (by omega)
  have w4 : IntKind.i64.wrap ((i : Int) + 1)=i + 1 := w64 _ (by omega)
  have hk := hp (3 + i) 1048576 (by omega)
  have rk := hr (3 + i) 1048576 (by omega)
  have hfin : ((List.range (i + 1)).map fun j : Nat=>someI (pick l (3 + (j : Int)) 1048576) (1 + n0) cp j)=L ++ [someI (pick l (3 + i) 1048576) (1 + n0) cp i] := by rw [List.range_succ,List.map_append,← hset]; rfl
  have wi : (i : Int) + 1=1 + n0 ↔ (i : Int)=n0 := by omega
  generalize pick l (3 + i) 1048576=k at *
  have d8 : 0≤k.tdiv 8∧k.tdiv 8≤1048576 := by rw [Int.tdiv_eq_ediv_of_nonneg (by omega)]; omega
  have d16 : 0≤k.tdiv 16∧k.tdiv 16≤1048576 := by rw [Int.tdiv_eq_ediv_of_nonneg (by omega)]; omega
  have m8 : 0≤k.tmod 8∧k.tmod 8 < 8 := by rw [Int.tmod_eq_emod_of_nonneg (by omega)]; omega
  have wd8 : IntKind.i64.wrap (k.tdiv 8)=k.tdiv 8 := w64 _ (by omega)
  have wd16 : IntKind.i64.wrap (k.tdiv 16)=k.tdiv 16 := w64 _ (by omega)
  have hm3 : 0≤(k.tdiv 8).tmod 3∧(k.tdiv 8).tmod 3 < 3 := by rw [Int.tmod_eq_emod_of_nonneg (by omega)]; omega
  have w97 : IntKind.i64.wrap (97 + (k.tdiv 8).tmod 3)=97 + (k.tdiv 8).tmod 3 := w64 _ (by omega)
  simp only [i64] at hk
  have hc : k.tmod 8=0 ∨ k.tmod 8=1 ∨ k.tmod 8=2 ∨ k.tmod 8=3 ∨ k.tmod 8=4 ∨ k.tmod 8=5 ∨ k.tmod 8=6 ∨ k.tmod 8=7 := by omega
  by_cases hlast : (i : Int)=n0
  ·have hla := eq_true hlast
   have hl1 : (i : Int) + 1=1 + n0 := by omega
   rcases hc with hc | hc | hc | hc | hc | hc | hc | hc
   ·by_cases h5 : (k.tdiv 8).tmod 5=4
    ·have h5' := eq_true h5
     simp only [zX,simprocAttr,i64,bV,iD,bD,e0,e2,e3,e4,e5,hlt,w1,w2,w3,w4,wc,nz,wd8,wd16,w97,zeroPO,someO,insArr,hc,gt_iff_lt,ge_iff_le,hla,h5']
     refine call_pure hk rfl rfl ?_
     simp only [zX,simprocAttr,i64,bV,iD,bD,e0,e2,e3,e4,e5,hlt,w1,w2,w3,w4,wc,nz,wd8,wd16,w97,zeroPO,someO,insArr,hc,gt_iff_lt,ge_iff_le,hla,h5']
     have hX : someI k (1 + n0) cp i=⟨0,0,0,0,[]⟩ := by simp [someI,someJ,hc,hl1,h5]
     refine ⟨fun e he=>by rw [List.mem_singleton.1 he]; rfl,⟨by simp; omega,by omega⟩,(1 + n0).toNat - (i + 1),_,_,by omega,Cln.cut (s' := [zeroPO,someO (.so 2 (g + 1) 0 (i + 1)) cp (decide (rn=0)),insArr (g + 1) (L ++ [⟨0,0,0,0,[]⟩])]) 3 (by omega) ?_ (by simp only [List.all_cons,List.all_nil,insArr_ok,Bool.and_true]; simp [zeroPO,someO,objOk,refsV,i64,bV]) [0,2,3,4,5] ?_,i + 1,g + 1,L ++ [⟨0,0,0,0,[]⟩],rfl,by omega,by simp [hL],by rw [hfin,hX],?_,?_,?_,?_,?_,rfl⟩ <;> (try simp only [zU,Nat.reduceBEq,Nat.reduceShiftRight,Nat.reduceMod,Nat.reduceEqDiff,reduceIte])
     ·simp only [List.take_succ_cons,List.take_zero]
      rw [insTake _ _ (by omega)]
      simp [zeroPO,someO,insArr,Ins.cells,spanC,iD,i64,bV]
     ·simp [updE,trimE_app,refsV,e0,e2,e3,e4,i64]
     ·exact e0
     ·exact e2
     ·exact e3
     ·exact e4
     ·rfl
    ·have h5' := h5
     simp only [zX,simprocAttr,i64,bV,iD,bD,e0,e2,e3,e4,e5,hlt,w1,w2,w3,w4,wc,nz,wd8,wd16,w97,zeroPO,someO,insArr,hc,gt_iff_lt,ge_iff_le,hla,h5']
     refine call_pure hk rfl rfl ?_
     simp only [zX,simprocAttr,i64,bV,iD,bD,e0,e2,e3,e4,e5,hlt,w1,w2,w3,w4,wc,nz,wd8,wd16,w97,zeroPO,someO,insArr,hc,gt_iff_lt,ge_iff_le,hla,h5']
     have hX : someI k (1 + n0) cp i=⟨0,0,0,0,[]⟩ := by simp [someI,someJ,hc,hl1,h5]
     refine ⟨fun e he=>by rw [List.mem_singleton.1 he]; rfl,⟨by simp; omega,by omega⟩,(1 + n0).toNat - (i + 1),_,_,by omega,Cln.cut (s' := [zeroPO,someO (.so 2 (g + 1) 0 (i + 1)) cp (decide (rn=0)),insArr (g + 1) (L ++ [⟨0,0,0,0,[]⟩])]) 3 (by omega) ?_ (by simp only [List.all_cons,List.all_nil,insArr_ok,Bool.and_true]; simp [zeroPO,someO,objOk,refsV,i64,bV]) [0,2,3,4,5] ?_,i + 1,g + 1,L ++ [⟨0,0,0,0,[]⟩],rfl,by omega,by simp [hL],by rw [hfin,hX],?_,?_,?_,?_,?_,rfl⟩ <;> (try simp only [zU,Nat.reduceBEq,Nat.reduceShiftRight,Nat.reduceMod,Nat.reduceEqDiff,reduceIte])
     ·simp only [List.take_succ_cons,List.take_zero]
      rw [insTake _ _ (by omega)]
      simp [zeroPO,someO,insArr,Ins.cells,spanC,iD,i64,bV]
     ·simp [updE,trimE_app,refsV,e0,e2,e3,e4,i64]
     ·exact e0
     ·exact e2
     ·exact e3
     ·exact e4
     ·rfl
   ·by_cases h5 : (k.tdiv 8).tmod 5=4
    ·have h5' := eq_true h5
     simp only [zX,simprocAttr,i64,bV,iD,bD,e0,e2,e3,e4,e5,hlt,w1,w2,w3,w4,wc,nz,wd8,wd16,w97,zeroPO,someO,insArr,hc,gt_iff_lt,ge_iff_le,hla,h5']
     refine call_pure hk rfl rfl ?_
     simp only [zX,simprocAttr,i64,bV,iD,bD,e0,e2,e3,e4,e5,hlt,w1,w2,w3,w4,wc,nz,wd8,wd16,w97,zeroPO,someO,insArr,hc,gt_iff_lt,ge_iff_le,hla,h5']
     have hX : someI k (1 + n0) cp i=⟨0,0,0,0,[]⟩ := by simp [someI,someJ,hc,hl1,h5]
     refine ⟨fun e he=>by rw [List.mem_singleton.1 he]; rfl,⟨by simp; omega,by omega⟩,(1 + n0).toNat - (i + 1),_,_,by omega,Cln.cut (s' := [zeroPO,someO (.so 2 (g + 1) 0 (i + 1)) cp (decide (rn=0)),insArr (g + 1) (L ++ [⟨0,0,0,0,[]⟩])]) 3 (by omega) ?_ (by simp only [List.all_cons,List.all_nil,insArr_ok,Bool.and_true]; simp [zeroPO,someO,objOk,refsV,i64,bV]) [0,2,3,4,5] ?_,i + 1,g + 1,L ++ [⟨0,0,0,0,[]⟩],rfl,by omega,by simp [hL],by rw [hfin,hX],?_,?_,?_,?_,?_,rfl⟩ <;> (try simp only [zU,Nat.reduceBEq,Nat.reduceShiftRight,Nat.reduceMod,Nat.reduceEqDiff,reduceIte])
     ·simp only [List.take_succ_cons,List.take_zero]
      rw [insTake _ _ (by omega)]
      simp [zeroPO,someO,insArr,Ins.cells,spanC,iD,i64,bV]
     ·simp [updE,trimE_app,refsV,e0,e2,e3,e4,i64]
     ·exact e0
     ·exact e2
     ·exact e3
     ·exact e4
     ·rfl
    ·have h5' := h5
     simp only [zX,simprocAttr,i64,bV,iD,bD,e0,e2,e3,e4,e5,hlt,w1,w2,w3,w4,wc,nz,wd8,wd16,w97,zeroPO,someO,insArr,hc,gt_iff_lt,ge_iff_le,hla,h5']
     refine call_pure hk rfl rfl ?_
     simp only [zX,simprocAttr,i64,bV,iD,bD,e0,e2,e3,e4,e5,hlt,w1,w2,w3,w4,wc,nz,wd8,wd16,w97,zeroPO,someO,insArr,hc,gt_iff_lt,ge_iff_le,hla,h5']
     have hX : someI k (1 + n0) cp i=⟨0,0,0,0,[]⟩ := by simp [someI,someJ,hc,hl1,h5]
     refine ⟨fun e he=>by rw [List.mem_singleton.1 he]; rfl,⟨by simp; omega,by omega⟩,(1 + n0).toNat - (i + 1),_,_,by omega,Cln.cut (s' := [zeroPO,someO (.so 2 (g + 1) 0 (i + 1)) cp (decide (rn=0)),insArr (g + 1) (L ++ [⟨0,0,0,0,[]⟩])]) 3 (by omega) ?_ (by simp only [List.all_cons,List.all_nil,insArr_ok,Bool.and_true]; simp [zeroPO,someO,objOk,refsV,i64,bV]) [0,2,3,4,5] ?_,i + 1,g + 1,L ++ [⟨0,0,0,0,[]⟩],rfl,by omega,by simp [hL],by rw [hfin,hX],?_,?_,?_,?_,?_,rfl⟩ <;> (try simp only [zU,Nat.reduceBEq,Nat.reduceShiftRight,Nat.reduceMod,Nat.reduceEqDiff,reduceIte])
     ·simp only [List.take_succ_cons,List.take_zero]
      rw [insTake _ _ (by omega)]
      simp [zeroPO,someO,insArr,Ins.cells,spanC,iD,i64,bV]
     ·simp [updE,trimE_app,refsV,e0,e2,e3,e4,i64]
     ·exact e0
     ·exact e2
     ·exact e3
     ·exact e4
     ·rfl
   ·by_cases h5 : (k.tdiv 8).tmod 5=4
    ·have h5' := eq_true h5
     simp only [zX,simprocAttr,i64,bV,iD,bD,e0,e2,e3,e4,e5,hlt,w1,w2,w3,w4,wc,nz,wd8,wd16,w97,zeroPO,someO,insArr,hc,gt_iff_lt,ge_iff_le,hla,h5']
     refine call_pure hk rfl rfl ?_
     simp only [zX,simprocAttr,i64,bV,iD,bD,e0,e2,e3,e4,e5,hlt,w1,w2,w3,w4,wc,nz,wd8,wd16,w97,zeroPO,someO,insArr,hc,gt_iff_lt,ge_iff_le,hla,h5']
     have hX : someI k (1 + n0) cp i=⟨0,0,0,0,[]⟩ := by simp [someI,someJ,hc,hl1,h5]
     refine ⟨fun e he=>by rw [List.mem_singleton.1 he]; rfl,⟨by simp; omega,by omega⟩,(1 + n0).toNat - (i + 1),_,_,by omega,Cln.cut (s' := [zeroPO,someO (.so 2 (g + 1) 0 (i + 1)) cp (decide (rn=0)),insArr (g + 1) (L ++ [⟨0,0,0,0,[]⟩])]) 3 (by omega) ?_ (by simp only [List.all_cons,List.all_nil,insArr_ok,Bool.and_true]; simp [zeroPO,someO,objOk,refsV,i64,bV]) [0,2,3,4,5] ?_,i + 1,g + 1,L ++ [⟨0,0,0,0,[]⟩],rfl,by omega,by simp [hL],by rw [hfin,hX],?_,?_,?_,?_,?_,rfl⟩ <;> (try simp only [zU,Nat.reduceBEq,Nat.reduceShiftRight,Nat.reduceMod,Nat.reduceEqDiff,reduceIte])
     ·simp only [List.take_succ_cons,List.take_zero]
      rw [insTake _ _ (by omega)]
      simp [zeroPO,someO,insArr,Ins.cells,spanC,iD,i64,bV]
     ·simp [updE,trimE_app,refsV,e0,e2,e3,e4,i64]
     ·exact e0
     ·exact e2
     ·exact e3
     ·exact e4
     ·rfl
    ·have h5' := h5
     simp only [zX,simprocAttr,i64,bV,iD,bD,e0,e2,e3,e4,e5,hlt,w1,w2,w3,w4,wc,nz,wd8,wd16,w97,zeroPO,someO,insArr,hc,gt_iff_lt,ge_iff_le,hla,h5']
     refine call_pure hk rfl rfl ?_
     simp only [zX,simprocAttr,i64,bV,iD,bD,e0,e2,e3,e4,e5,hlt,w1,w2,w3,w4,wc,nz,wd8,wd16,w97,zeroPO,someO,insArr,hc,gt_iff_lt,ge_iff_le,hla,h5']
     have hX : someI k (1 + n0) cp i=⟨0,0,0,0,[]⟩ := by simp [someI,someJ,hc,hl1,h5]
     refine ⟨fun e he=>by rw [List.mem_singleton.1 he]; rfl,⟨by simp; omega,by omega⟩,(1 + n0).toNat - (i + 1),_,_,by omega,Cln.cut (s' := [zeroPO,someO (.so 2 (g + 1) 0 (i + 1)) cp (decide (rn=0)),insArr (g + 1) (L ++ [⟨0,0,0,0,[]⟩])]) 3 (by omega) ?_ (by simp only [List.all_cons,List.all_nil,insArr_ok,Bool.and_true]; simp [zeroPO,someO,objOk,refsV,i64,bV]) [0,2,3,4,5] ?_,i + 1,g + 1,L ++ [⟨0,0,0,0,[]⟩],rfl,by omega,by simp [hL],by rw [hfin,hX],?_,?_,?_,?_,?_,rfl⟩ <;> (try simp only [zU,Nat.reduceBEq,Nat.reduceShiftRight,Nat.reduceMod,Nat.reduceEqDiff,reduceIte])
     ·simp only [List.take_succ_cons,List.take_zero]
      rw [insTake _ _ (by omega)]
      simp [zeroPO,someO,insArr,Ins.cells,spanC,iD,i64,bV]
     ·simp [updE,trimE_app,refsV,e0,e2,e3,e4,i64]
     ·exact e0
     ·exact e2
     ·exact e3
     ·exact e4
     ·rfl
   ·by_cases h5 : (k.tdiv 16).tmod 3=0
    ·have h5' := eq_true h5
     simp only [zX,simprocAttr,i64,bV,iD,bD,e0,e2,e3,e4,e5,hlt,w1,w2,w3,w4,wc,nz,wd8,wd16,w97,zeroPO,someO,insArr,hc,gt_iff_lt,ge_iff_le,hla,h5']
     refine call_pure hk rfl rfl ?_
     simp only [zX,simprocAttr,i64,bV,iD,bD,e0,e2,e3,e4,e5,hlt,w1,w2,w3,w4,wc,nz,wd8,wd16,w97,zeroPO,someO,insArr,hc,gt_iff_lt,ge_iff_le,hla,h5']
     refine draw_c mix [] [(9,[3],[3])] (by rfl) ?_
     simp only [zX,simprocAttr,i64,bV,iD,bD,e0,e2,e3,e4,e5,hlt,w1,w2,w3,w4,wc,nz,wd8,wd16,w97,zeroPO,someO,insArr,hc,gt_iff_lt,ge_iff_le,hla,h5']
     refine draw_c mix [] [(9,[3],[3])] (by rfl) ?_
     simp only [zX,simprocAttr,i64,bV,iD,bD,e0,e2,e3,e4,e5,hlt,w1,w2,w3,w4,wc,nz,wd8,wd16,w97,zeroPO,someO,insArr,hc,gt_iff_lt,ge_iff_le,hla,h5']
     have hX : someI k (1 + n0) cp i=⟨2,(k.tdiv 8).tmod (1 + n0),((i : Int) + 1).tmod (1 + n0),0,[]⟩ := by simp [someI,someJ,hc,hl1,h5]
     refine ⟨fun e he=>by rw [List.mem_singleton.1 he]; rfl,⟨by simp; omega,by omega⟩,(1 + n0).toNat - (i + 1),_,_,by omega,Cln.cut (s' := [zeroPO,someO (.so 2 (g + 1) 0 (i + 1)) cp (decide (rn=0)),insArr (g + 1) (L ++ [⟨2,(k.tdiv 8).tmod (1 + n0),((i : Int) + 1).tmod (1 + n0),0,[]⟩])]) 3 (by omega) ?_ (by simp only [List.all_cons,List.all_nil,insArr_ok,Bool.and_true]; simp [zeroPO,someO,objOk,refsV,i64,bV]) [0,2,3,4,5] ?_,i + 1,g + 1,L ++ [⟨2,(k.tdiv 8).tmod (1 + n0),((i : Int) + 1).tmod (1 + n0),0,[]⟩],rfl,by omega,by simp [hL],by rw [hfin,hX],?_,?_,?_,?_,?_,rfl⟩ <;> (try simp only [zU,Nat.reduceBEq,Nat.reduceShiftRight,Nat.reduceMod,Nat.reduceEqDiff,reduceIte])
     ·simp only [List.take_succ_cons,List.take_zero]
      rw [insTake _ _ (by omega)]
      simp [zeroPO,someO,insArr,Ins.cells,spanC,iD,i64,bV]
     ·simp [updE,trimE_app,refsV,e0,e2,e3,e4,i64]
     ·exact e0
     ·exact e2
     ·exact e3
     ·exact e4
     ·rfl
    ·have h5' := h5
     simp only [zX,simprocAttr,i64,bV,iD,bD,e0,e2,e3,e4,e5,hlt,w1,w2,w3,w4,wc,nz,wd8,wd16,w97,zeroPO,someO,insArr,hc,gt_iff_lt,ge_iff_le,hla,h5']
     refine call_pure hk rfl rfl ?_
     simp only [zX,simprocAttr,i64,bV,iD,bD,e0,e2,e3,e4,e5,hlt,w1,w2,w3,w4,wc,nz,wd8,wd16,w97,zeroPO,someO,insArr,hc,gt_iff_lt,ge_iff_le,hla,h5']
     refine draw_c mix [] [(9,[3],[3])] (by rfl) ?_
     simp only [zX,simprocAttr,i64,bV,iD,bD,e0,e2,e3,e4,e5,hlt,w1,w2,w3,w4,wc,nz,wd8,wd16,w97,zeroPO,someO,insArr,hc,gt_iff_lt,ge_iff_le,hla,h5']
     have hX : someI k (1 + n0) cp i=⟨2,((i : Int) + 1).tmod (1 + n0),(k.tdiv 8).tmod (1 + n0),0,[]⟩ := by simp [someI,someJ,hc,hl1,h5]
     refine ⟨fun e he=>by rw [List.mem_singleton.1 he]; rfl,⟨by simp; omega,by omega⟩,(1 + n0).toNat - (i + 1),_,_,by omega,Cln.cut (s' := [zeroPO,someO (.so 2 (g + 1) 0 (i + 1)) cp (decide (rn=0)),insArr (g + 1) (L ++ [⟨2,((i : Int) + 1).tmod (1 + n0),(k.tdiv 8).tmod (1 + n0),0,[]⟩])]) 3 (by omega) ?_ (by simp only [List.all_cons,List.all_nil,insArr_ok,Bool.and_true]; simp [zeroPO,someO,objOk,refsV,i64,bV]) [0,2,3,4,5] ?_,i + 1,g + 1,L ++ [⟨2,((i : Int) + 1).tmod (1 + n0),(k.tdiv 8).tmod (1 + n0),0,[]⟩],rfl,by omega,by simp [hL],by rw [hfin,hX],?_,?_,?_,?_,?_,rfl⟩ <;> (try simp only [zU,Nat.reduceBEq,Nat.reduceShiftRight,Nat.reduceMod,Nat.reduceEqDiff,reduceIte])
     ·simp only [List.take_succ_cons,List.take_zero]
      rw [insTake _ _ (by omega)]
      simp [zeroPO,someO,insArr,Ins.cells,spanC,iD,i64,bV]
     ·simp [updE,trimE_app,refsV,e0,e2,e3,e4,i64]
     ·exact e0
     ·exact e2
     ·exact e3
     ·exact e4
     ·rfl
   ·by_cases h5 : (k.tdiv 16).tmod 3=0
    ·have h5' := eq_true h5
     simp only [zX,simprocAttr,i64,bV,iD,bD,e0,e2,e3,e4,e5,hlt,w1,w2,w3,w4,wc,nz,wd8,wd16,w97,zeroPO,someO,insArr,hc,gt_iff_lt,ge_iff_le,hla,h5']
     refine call_pure hk rfl rfl ?_
     simp only [zX,simprocAttr,i64,bV,iD,bD,e0,e2,e3,e4,e5,hlt,w1,w2,w3,w4,wc,nz,wd8,wd16,w97,zeroPO,someO,insArr,hc,gt_iff_lt,ge_iff_le,hla,h5']
     refine draw_c mix [] [(9,[3],[3])] (by rfl) ?_
     simp only [zX,simprocAttr,i64,bV,iD,bD,e0,e2,e3,e4,e5,hlt,w1,w2,w3,w4,wc,nz,wd8,wd16,w97,zeroPO,someO,insArr,hc,gt_iff_lt,ge_iff_le,hla,h5']
     refine draw_c mix [] [(9,[3],[3])] (by rfl) ?_
     simp only [zX,simprocAttr,i64,bV,iD,bD,e0,e2,e3,e4,e5,hlt,w1,w2,w3,w4,wc,nz,wd8,wd16,w97,zeroPO,someO,insArr,hc,gt_iff_lt,ge_iff_le,hla,h5']
     have hX : someI k (1 + n0) cp i=⟨2,(k.tdiv 8).tmod (1 + n0),((i : Int) + 1).tmod (1 + n0),0,[]⟩ := by simp [someI,someJ,hc,hl1,h5]
     refine ⟨fun e he=>by rw [List.mem_singleton.1 he]; rfl,⟨by simp; omega,by omega⟩,(1 + n0).toNat - (i + 1),_,_,by omega,Cln.cut (s' := [zeroPO,someO (.so 2 (g + 1) 0 (i + 1)) cp (decide (rn=0)),insArr (g + 1) (L ++ [⟨2,(k.tdiv 8).tmod (1 + n0),((i : Int) + 1).tmod (1 + n0),0,[]⟩])]) 3 (by omega) ?_ (by simp only [List.all_cons,List.all_nil,insArr_ok,Bool.and_true]; simp [zeroPO,someO,objOk,refsV,i64,bV]) [0,2,3,4,5] ?_,i + 1,g + 1,L ++ [⟨2,(k.tdiv 8).tmod (1 + n0),((i : Int) + 1).tmod (1 + n0),0,[]⟩],rfl,by omega,by simp [hL],by rw [hfin,hX],?_,?_,?_,?_,?_,rfl⟩ <;> (try simp only [zU,Nat.reduceBEq,Nat.reduceShiftRight,Nat.reduceMod,Nat.reduceEqDiff,reduceIte])
     ·simp only [List.take_succ_cons,List.take_zero]
      rw [insTake _ _ (by omega)]
      simp [zeroPO,someO,insArr,Ins.cells,spanC,iD,i64,bV]
     ·simp [updE,trimE_app,refsV,e0,e2,e3,e4,i64]
     ·exact e0
     ·exact e2
     ·exact e3
     ·exact e4
     ·rfl
    ·have h5' := h5
     simp only [zX,simprocAttr,i64,bV,iD,bD,e0,e2,e3,e4,e5,hlt,w1,w2,w3,w4,wc,nz,wd8,wd16,w97,zeroPO,someO,insArr,hc,gt_iff_lt,ge_iff_le,hla,h5']
     refine call_pure hk rfl rfl ?_
     simp only [zX,simprocAttr,i64,bV,iD,bD,e0,e2,e3,e4,e5,hlt,w1,w2,w3,w4,wc,nz,wd8,wd16,w97,zeroPO,someO,insArr,hc,gt_iff_lt,ge_iff_le,hla,h5']
     refine draw_c mix [] [(9,[3],[3])] (by rfl) ?_
     simp only [zX,simprocAttr,i64,bV,iD,bD,e0,e2,e3,e4,e5,hlt,w1,w2,w3,w4,wc,nz,wd8,wd16,w97,zeroPO,someO,insArr,hc,gt_iff_lt,ge_iff_le,hla,h5']
     have hX : someI k (1 + n0) cp i=⟨2,((i : Int) + 1).tmod (1 + n0),(k.tdiv 8).tmod (1 + n0),0,[]⟩ := by simp [someI,someJ,hc,hl1,h5]
     refine ⟨fun e he=>by rw [List.mem_singleton.1 he]; rfl,⟨by simp; omega,by omega⟩,(1 + n0).toNat - (i + 1),_,_,by omega,Cln.cut (s' := [zeroPO,someO (.so 2 (g + 1) 0 (i + 1)) cp (decide (rn=0)),insArr (g + 1) (L ++ [⟨2,((i : Int) + 1).tmod (1 + n0),(k.tdiv 8).tmod (1 + n0),0,[]⟩])]) 3 (by omega) ?_ (by simp only [List.all_cons,List.all_nil,insArr_ok,Bool.and_true]; simp [zeroPO,someO,objOk,refsV,i64,bV]) [0,2,3,4,5] ?_,i + 1,g + 1,L ++ [⟨2,((i : Int) + 1).tmod (1 + n0),(k.tdiv 8).tmod (1 + n0),0,[]⟩],rfl,by omega,by simp [hL],by rw [hfin,hX],?_,?_,?_,?_,?_,rfl⟩ <;> (try simp only [zU,Nat.reduceBEq,Nat.reduceShiftRight,Nat.reduceMod,Nat.reduceEqDiff,reduceIte])
     ·simp only [List.take_succ_cons,List.take_zero]
      rw [insTake _ _ (by omega)]
      simp [zeroPO,someO,insArr,Ins.cells,spanC,iD,i64,bV]
     ·simp [updE,trimE_app,refsV,e0,e2,e3,e4,i64]
     ·exact e0
     ·exact e2
     ·exact e3
     ·exact e4
     ·rfl
   ·simp only [zX,simprocAttr,i64,bV,iD,bD,e0,e2,e3,e4,e5,hlt,w1,w2,w3,w4,wc,nz,wd8,wd16,w97,zeroPO,someO,insArr,hc,gt_iff_lt,ge_iff_le,hla]
    refine call_pure hk rfl rfl ?_
    simp only [zX,simprocAttr,i64,bV,iD,bD,e0,e2,e3,e4,e5,hlt,w1,w2,w3,w4,wc,nz,wd8,wd16,w97,zeroPO,someO,insArr,hc,gt_iff_lt,ge_iff_le,hla]
    have hX : someI k (1 + n0) cp i=⟨3,(k.tdiv 8).tmod (1 + n0),0,0,[]⟩ := by simp [someI,someJ,hc,hl1]
    refine ⟨fun e he=>by rw [List.mem_singleton.1 he]; rfl,⟨by simp; omega,by omega⟩,(1 + n0).toNat - (i + 1),_,_,by omega,Cln.cut (s' := [zeroPO,someO (.so 2 (g + 1) 0 (i + 1)) cp (decide (rn=0)),insArr (g + 1) (L ++ [⟨3,(k.tdiv 8).tmod (1 + n0),0,0,[]⟩])]) 3 (by omega) ?_ (by simp only [List.all_cons,List.all_nil,insArr_ok,Bool.and_true]; simp [zeroPO,someO,objOk,refsV,i64,bV]) [0,2,3,4,5] ?_,i + 1,g + 1,L ++ [⟨3,(k.tdiv 8).tmod (1 + n0),0,0,[]⟩],rfl,by omega,by simp [hL],by rw [hfin,hX],?_,?_,?_,?_,?_,rfl⟩ <;> (try simp only [zU,Nat.reduceBEq,Nat.reduceShiftRight,Nat.reduceMod,Nat.reduceEqDiff,reduceIte])
    ·simp only [List.take_succ_cons,List.take_zero]
     rw [insTake _ _ (by omega)]
     simp [zeroPO,someO,insArr,Ins.cells,spanC,iD,i64,bV]
    ·simp [updE,trimE_app,refsV,e0,e2,e3,e4,i64]
    ·exact e0
    ·exact e2
    ·exact e3
    ·exact e4
    ·rfl
   ·by_cases h5 : 0 < cp
    ·have h5' := eq_true h5
     have nc : ¬ 2 * cp=0 := by omega
     simp only [zX,simprocAttr,i64,bV,iD,bD,e0,e2,e3,e4,e5,hlt,w1,w2,w3,w4,wc,nz,wd8,wd16,w97,zeroPO,someO,insArr,hc,gt_iff_lt,ge_iff_le,hla,h5',nc]
     refine call_pure hk rfl rfl ?_
     simp only [zX,simprocAttr,i64,bV,iD,bD,e0,e2,e3,e4,e5,hlt,w1,w2,w3,w4,wc,nz,wd8,wd16,w97,zeroPO,someO,insArr,hc,gt_iff_lt,ge_iff_le,hla,h5',nc]
     have hX : someI k (1 + n0) cp i=⟨0,0,0,0,[]⟩ := by simp [someI,someJ,hc,hl1,h5]
     refine ⟨fun e he=>by rw [List.mem_singleton.1 he]; rfl,⟨by simp; omega,by omega⟩,(1 + n0).toNat - (i + 1),_,_,by omega,Cln.cut (s' := [zeroPO,someO (.so 2 (g + 1) 0 (i + 1)) cp (decide (rn=0)),insArr (g + 1) (L ++ [⟨0,0,0,0,[]⟩])]) 3 (by omega) ?_ (by simp only [List.all_cons,List.all_nil,insArr_ok,Bool.and_true]; simp [zeroPO,someO,objOk,refsV,i64,bV]) [0,2,3,4,5] ?_,i + 1,g + 1,L ++ [⟨0,0,0,0,[]⟩],rfl,by omega,by simp [hL],by rw [hfin,hX],?_,?_,?_,?_,?_,rfl⟩ <;> (try simp only [zU,Nat.reduceBEq,Nat.reduceShiftRight,Nat.reduceMod,Nat.reduceEqDiff,reduceIte])
     ·simp only [List.take_succ_cons,List.take_zero]
      rw [insTake _ _ (by omega)]
      simp [zeroPO,someO,insArr,Ins.cells,spanC,iD,i64,bV]
     ·simp [updE,trimE_app,refsV,e0,e2,e3,e4,i64]
     ·exact e0
     ·exact e2
     ·exact e3
     ·exact e4
     ·rfl
    ·have h5' := h5
     simp only [zX,simprocAttr,i64,bV,iD,bD,e0,e2,e3,e4,e5,hlt,w1,w2,w3,w4,wc,nz,wd8,wd16,w97,zeroPO,someO,insArr,hc,gt_iff_lt,ge_iff_le,hla,h5']
     refine call_pure hk rfl rfl ?_
     simp only [zX,simprocAttr,i64,bV,iD,bD,e0,e2,e3,e4,e5,hlt,w1,w2,w3,w4,wc,nz,wd8,wd16,w97,zeroPO,someO,insArr,hc,gt_iff_lt,ge_iff_le,hla,h5']
     have hX : someI k (1 + n0) cp i=⟨0,0,0,0,[]⟩ := by simp [someI,someJ,hc,hl1,h5]
     refine ⟨fun e he=>by rw [List.mem_singleton.1 he]; rfl,⟨by simp; omega,by omega⟩,(1 + n0).toNat - (i + 1),_,_,by omega,Cln.cut (s' := [zeroPO,someO (.so 2 (g + 1) 0 (i + 1)) cp (decide (rn=0)),insArr (g + 1) (L ++ [⟨0,0,0,0,[]⟩])]) 3 (by omega) ?_ (by simp only [List.all_cons,List.all_nil,insArr_ok,Bool.and_true]; simp [zeroPO,someO,objOk,refsV,i64,bV]) [0,2,3,4,5] ?_,i + 1,g + 1,L ++ [⟨0,0,0,0,[]⟩],rfl,by omega,by simp [hL],by rw [hfin,hX],?_,?_,?_,?_,?_,rfl⟩ <;> (try simp only [zU,Nat.reduceBEq,Nat.reduceShiftRight,Nat.reduceMod,Nat.reduceEqDiff,reduceIte])
     ·simp only [List.take_succ_cons,List.take_zero]
      rw [insTake _ _ (by omega)]
      simp [zeroPO,someO,insArr,Ins.cells,spanC,iD,i64,bV]
     ·simp [updE,trimE_app,refsV,e0,e2,e3,e4,i64]
     ·exact e0
     ·exact e2
     ·exact e3
     ·exact e4
     ·rfl
   ·by_cases h5 : 0 < (k.tdiv 8).tmod 3
    ·have h5' := eq_true h5
     simp only [zX,simprocAttr,i64,bV,iD,bD,e0,e2,e3,e4,e5,hlt,w1,w2,w3,w4,wc,nz,wd8,wd16,w97,zeroPO,someO,insArr,hc,gt_iff_lt,ge_iff_le,hla,h5']
     refine call_pure hk rfl rfl ?_
     simp only [zX,simprocAttr,i64,bV,iD,bD,e0,e2,e3,e4,e5,hlt,w1,w2,w3,w4,wc,nz,wd8,wd16,w97,zeroPO,someO,insArr,hc,gt_iff_lt,ge_iff_le,hla,h5']
     have hX : someI k (1 + n0) cp i=⟨0,0,0,0,[]⟩ := by simp [someI,someJ,hc,hl1,h5]
     refine ⟨fun e he=>by rw [List.mem_singleton.1 he]; rfl,⟨by simp; omega,by omega⟩,(1 + n0).toNat - (i + 1),_,_,by omega,Cln.cut (s' := [zeroPO,someO (.so 2 (g + 1) 0 (i + 1)) cp (decide (rn=0)),insArr (g + 1) (L ++ [⟨0,0,0,0,[]⟩])]) 3 (by omega) ?_ (by simp only [List.all_cons,List.all_nil,insArr_ok,Bool.and_true]; simp [zeroPO,someO,objOk,refsV,i64,bV]) [0,2,3,4,5] ?_,i + 1,g + 1,L ++ [⟨0,0,0,0,[]⟩],rfl,by omega,by simp [hL],by rw [hfin,hX],?_,?_,?_,?_,?_,rfl⟩ <;> (try simp only [zU,Nat.reduceBEq,Nat.reduceShiftRight,Nat.reduceMod,Nat.reduceEqDiff,reduceIte])
     ·simp only [List.take_succ_cons,List.take_zero]
      rw [insTake _ _ (by omega)]
      simp [zeroPO,someO,insArr,Ins.cells,spanC,iD,i64,bV]
     ·simp [updE,trimE_app,refsV,e0,e2,e3,e4,i64]
     ·exact e0
     ·exact e2
     ·exact e3
     ·exact e4
     ·rfl
    ·have h5' := h5
     simp only [zX,simprocAttr,i64,bV,iD,bD,e0,e2,e3,e4,e5,hlt,w1,w2,w3,w4,wc,nz,wd8,wd16,w97,zeroPO,someO,insArr,hc,gt_iff_lt,ge_iff_le,hla,h5']
     refine call_pure hk rfl rfl ?_
     simp only [zX,simprocAttr,i64,bV,iD,bD,e0,e2,e3,e4,e5,hlt,w1,w2,w3,w4,wc,nz,wd8,wd16,w97,zeroPO,someO,insArr,hc,gt_iff_lt,ge_iff_le,hla,h5']
     have hX : someI k (1 + n0) cp i=⟨0,0,0,0,[]⟩ := by simp [someI,someJ,hc,hl1,h5]
     refine ⟨fun e he=>by rw [List.mem_singleton.1 he]; rfl,⟨by simp; omega,by omega⟩,(1 + n0).toNat - (i + 1),_,_,by omega,Cln.cut (s' := [zeroPO,someO (.so 2 (g + 1) 0 (i + 1)) cp (decide (rn=0)),insArr (g + 1) (L ++ [⟨0,0,0,0,[]⟩])]) 3 (by omega) ?_ (by simp only [List.all_cons,List.all_nil,insArr_ok,Bool.and_true]; simp [zeroPO,someO,objOk,refsV,i64,bV]) [0,2,3,4,5] ?_,i + 1,g + 1,L ++ [⟨0,0,0,0,[]⟩],rfl,by omega,by simp [hL],by rw [hfin,hX],?_,?_,?_,?_,?_,rfl⟩ <;> (try simp only [zU,Nat.reduceBEq,Nat.reduceShiftRight,Nat.reduceMod,Nat.reduceEqDiff,reduceIte])
     ·simp only [List.take_succ_cons,List.take_zero]
      rw [insTake _ _ (by omega)]
      simp [zeroPO,someO,insArr,Ins.cells,spanC,iD,i64,bV]
     ·simp [updE,trimE_app,refsV,e0,e2,e3,e4,i64]
     ·exact e0
     ·exact e2
     ·exact e3
     ·exact e4
     ·rfl
  ·have hla := hlast
   have hl1 : ¬ (i : Int) + 1=1 + n0 := by omega
   rcases hc with hc | hc | hc | hc | hc | hc | hc | hc
   ·by_cases h5 : (k.tdiv 8).tmod 5=4
    ·have h5' := eq_true h5
     simp only [zX,simprocAttr,i64,bV,iD,bD,e0,e2,e3,e4,e5,hlt,w1,w2,w3,w4,wc,nz,wd8,wd16,w97,zeroPO,someO,insArr,hc,gt_iff_lt,ge_iff_le,hla,h5']
     refine call_pure hk rfl rfl ?_
     simp only [zX,simprocAttr,i64,bV,iD,bD,e0,e2,e3,e4,e5,hlt,w1,w2,w3,w4,wc,nz,wd8,wd16,w97,zeroPO,someO,insArr,hc,gt_iff_lt,ge_iff_le,hla,h5']
     have hX : someI k (1 + n0) cp i=⟨1,0,0,0,[]⟩ := by simp [someI,someJ,hc,hl1,h5]
     refine ⟨fun e he=>by rw [List.mem_singleton.1 he]; rfl,⟨by simp; omega,by omega⟩,(1 + n0).toNat - (i + 1),_,_,by omega,Cln.cut (s' := [zeroPO,someO (.so 2 (g + 1) 0 (i + 1)) cp (decide (rn=0)),insArr (g + 1) (L ++ [⟨1,0,0,0,[]⟩])]) 3 (by omega) ?_ (by simp only [List.all_cons,List.all_nil,insArr_ok,Bool.and_true]; simp [zeroPO,someO,objOk,refsV,i64,bV]) [0,2,3,4,5] ?_,i + 1,g + 1,L ++ [⟨1,0,0,0,[]⟩],rfl,by omega,by simp [hL],by rw [hfin,hX],?_,?_,?_,?_,?_,rfl⟩ <;> (try simp only [zU,Nat.reduceBEq,Nat.reduceShiftRight,Nat.reduceMod,Nat.reduceEqDiff,reduceIte])
     ·simp only [List.take_succ_cons,List.take_zero]
      rw [insTake _ _ (by omega)]
      simp [zeroPO,someO,insArr,Ins.cells,spanC,iD,i64,bV]
     ·simp [updE,trimE_app,refsV,e0,e2,e3,e4,i64]
     ·exact e0
     ·exact e2
     ·exact e3
     ·exact e4
     ·rfl
    ·have h5' := h5
     simp only [zX,simprocAttr,i64,bV,iD,bD,e0,e2,e3,e4,e5,hlt,w1,w2,w3,w4,wc,nz,wd8,wd16,w97,zeroPO,someO,insArr,hc,gt_iff_lt,ge_iff_le,hla,h5']
     refine call_pure hk rfl rfl ?_
     simp only [zX,simprocAttr,i64,bV,iD,bD,e0,e2,e3,e4,e5,hlt,w1,w2,w3,w4,wc,nz,wd8,wd16,w97,zeroPO,someO,insArr,hc,gt_iff_lt,ge_iff_le,hla,h5']
     have hX : someI k (1 + n0) cp i=⟨1,0,0,0,[(97,97 + (k.tdiv 8).tmod 3)]⟩ := by simp [someI,someJ,hc,hl1,h5]
     refine ⟨fun e he=>by rw [List.mem_singleton.1 he]; rfl,⟨by simp; omega,by omega⟩,(1 + n0).toNat - (i + 1),_,_,by omega,Cln.cut (s' := [zeroPO,someO (.so 2 (g + 1) 0 (i + 1)) cp (decide (rn=0)),insArr (g + 1) (L ++ [⟨1,0,0,0,[(97,97 + (k.tdiv 8).tmod 3)]⟩])]) 3 (by omega) ?_ (by simp only [List.all_cons,List.all_nil,insArr_ok,Bool.and_true]; simp [zeroPO,someO,objOk,refsV,i64,bV]) [0,2,3,4,5] ?_,i + 1,g + 1,L ++ [⟨1,0,0,0,[(97,97 + (k.tdiv 8).tmod 3)]⟩],rfl,by omega,by simp [hL],by rw [hfin,hX],?_,?_,?_,?_,?_,rfl⟩ <;> (try simp only [zU,Nat.reduceBEq,Nat.reduceShiftRight,Nat.reduceMod,Nat.reduceEqDiff,reduceIte])
     ·simp only [List.take_succ_cons,List.take_zero]
      rw [insTake _ _ (by omega)]
      simp [zeroPO,someO,insArr,Ins.cells,spanC,iD,i64,bV]
     ·simp [updE,trimE_app,refsV,e0,e2,e3,e4,i64]
     ·exact e0
     ·exact e2
     ·exact e3
     ·exact e4
     ·rfl
   ·by_cases h5 : (k.tdiv 8).tmod 5=4
    ·have h5' := eq_true h5
     simp only [zX,simprocAttr,i64,bV,iD,bD,e0,e2,e3,e4,e5,hlt,w1,w2,w3,w4,wc,nz,wd8,wd16,w97,zeroPO,someO,insArr,hc,gt_iff_lt,ge_iff_le,hla,h5']
     refine call_pure hk rfl rfl ?_
     simp only [zX,simprocAttr,i64,bV,iD,bD,e0,e2,e3,e4,e5,hlt,w1,w2,w3,w4,wc,nz,wd8,wd16,w97,zeroPO,someO,insArr,hc,gt_iff_lt,ge_iff_le,hla,h5']
     have hX : someI k (1 + n0) cp i=⟨1,0,0,0,[]⟩ := by simp [someI,someJ,hc,hl1,h5]
     refine ⟨fun e he=>by rw [List.mem_singleton.1 he]; rfl,⟨by simp; omega,by omega⟩,(1 + n0).toNat - (i + 1),_,_,by omega,Cln.cut (s' := [zeroPO,someO (.so 2 (g + 1) 0 (i + 1)) cp (decide (rn=0)),insArr (g + 1) (L ++ [⟨1,0,0,0,[]⟩])]) 3 (by omega) ?_ (by simp only [List.all_cons,List.all_nil,insArr_ok,Bool.and_true]; simp [zeroPO,someO,objOk,refsV,i64,bV]) [0,2,3,4,5] ?_,i + 1,g + 1,L ++ [⟨1,0,0,0,[]⟩],rfl,by omega,by simp [hL],by rw [hfin,hX],?_,?_,?_,?_,?_,rfl⟩ <;> (try simp only [zU,Nat.reduceBEq,Nat.reduceShiftRight,Nat.reduceMod,Nat.reduceEqDiff,reduceIte])
     ·simp only [List.take_succ_cons,List.take_zero]
      rw [insTake _ _ (by omega)]
      simp [zeroPO,someO,insArr,Ins.cells,spanC,iD,i64,bV]
     ·simp [updE,trimE_app,refsV,e0,e2,e3,e4,i64]
     ·exact e0
     ·exact e2
     ·exact e3
     ·exact e4
     ·rfl
    ·have h5' := h5
     simp only [zX,simprocAttr,i64,bV,iD,bD,e0,e2,e3,e4,e5,hlt,w1,w2,w3,w4,wc,nz,wd8,wd16,w97,zeroPO,someO,insArr,hc,gt_iff_lt,ge_iff_le,hla,h5']
     refine call_pure hk rfl rfl ?_
     simp only [zX,simprocAttr,i64,bV,iD,bD,e0,e2,e3,e4,e5,hlt,w1,w2,w3,w4,wc,nz,wd8,wd16,w97,zeroPO,someO,insArr,hc,gt_iff_lt,ge_iff_le,hla,h5']
     have hX : someI k (1 + n0) cp i=⟨1,0,0,0,[(97,97 + (k.tdiv 8).tmod 3)]⟩ := by simp [someI,someJ,hc,hl1,h5]
     refine ⟨fun e he=>by rw [List.mem_singleton.1 he]; rfl,⟨by simp; omega,by omega⟩,(1 + n0).toNat - (i + 1),_,_,by omega,Cln.cut (s' := [zeroPO,someO (.so 2 (g + 1) 0 (i + 1)) cp (decide (rn=0)),insArr (g + 1) (L ++ [⟨1,0,0,0,[(97,97 + (k.tdiv 8).tmod 3)]⟩])]) 3 (by omega) ?_ (by simp only [List.all_cons,List.all_nil,insArr_ok,Bool.and_true]; simp [zeroPO,someO,objOk,refsV,i64,bV]) [0,2,3,4,5] ?_,i + 1,g + 1,L ++ [⟨1,0,0,0,[(97,97 + (k.tdiv 8).tmod 3)]⟩],rfl,by omega,by simp [hL],by rw [hfin,hX],?_,?_,?_,?_,?_,rfl⟩ <;> (try simp only [zU,Nat.reduceBEq,Nat.reduceShiftRight,Nat.reduceMod,Nat.reduceEqDiff,reduceIte])
     ·simp only [List.take_succ_cons,List.take_zero]
      rw [insTake _ _ (by omega)]
      simp [zeroPO,someO,insArr,Ins.cells,spanC,iD,i64,bV]
     ·simp [updE,trimE_app,refsV,e0,e2,e3,e4,i64]
     ·exact e0
     ·exact e2
     ·exact e3
     ·exact e4
     ·rfl
   ·by_cases h5 : (k.tdiv 8).tmod 5=4
    ·have h5' := eq_true h5
     simp only [zX,simprocAttr,i64,bV,iD,bD,e0,e2,e3,e4,e5,hlt,w1,w2,w3,w4,wc,nz,wd8,wd16,w97,zeroPO,someO,insArr,hc,gt_iff_lt,ge_iff_le,hla,h5']
     refine call_pure hk rfl rfl ?_
     simp only [zX,simprocAttr,i64,bV,iD,bD,e0,e2,e3,e4,e5,hlt,w1,w2,w3,w4,wc,nz,wd8,wd16,w97,zeroPO,someO,insArr,hc,gt_iff_lt,ge_iff_le,hla,h5']
     have hX : someI k (1 + n0) cp i=⟨1,0,0,0,[]⟩ := by simp [someI,someJ,hc,hl1,h5]
     refine ⟨fun e he=>by rw [List.mem_singleton.1 he]; rfl,⟨by simp; omega,by omega⟩,(1 + n0).toNat - (i + 1),_,_,by omega,Cln.cut (s' := [zeroPO,someO (.so 2 (g + 1) 0 (i + 1)) cp (decide (rn=0)),insArr (g + 1) (L ++ [⟨1,0,0,0,[]⟩])]) 3 (by omega) ?_ (by simp only [List.all_cons,List.all_nil,insArr_ok,Bool.and_true]; simp [zeroPO,someO,objOk,refsV,i64,bV]) [0,2,3,4,5] ?_,i + 1,g + 1,L ++ [⟨1,0,0,0,[]⟩],rfl,by omega,by simp [hL],by rw [hfin,hX],?_,?_,?_,?_,?_,rfl⟩ <;> (try simp only [zU,Nat.reduceBEq,Nat.reduceShiftRight,Nat.reduceMod,Nat.reduceEqDiff,reduceIte])
     ·simp only [List.take_succ_cons,List.take_zero]
      rw [insTake _ _ (by omega)]
      simp [zeroPO,someO,insArr,Ins.cells,spanC,iD,i64,bV]
     ·simp [updE,trimE_app,refsV,e0,e2,e3,e4,i64]
     ·exact e0
     ·exact e2
     ·exact e3
     ·exact e4
     ·rfl
    ·have h5' := h5
     simp only [zX,simprocAttr,i64,bV,iD,bD,e0,e2,e3,e4,e5,hlt,w1,w2,w3,w4,wc,nz,wd8,wd16,w97,zeroPO,someO,insArr,hc,gt_iff_lt,ge_iff_le,hla,h5']
     refine call_pure hk rfl rfl ?_
     simp only [zX,simprocAttr,i64,bV,iD,bD,e0,e2,e3,e4,e5,hlt,w1,w2,w3,w4,wc,nz,wd8,wd16,w97,zeroPO,someO,insArr,hc,gt_iff_lt,ge_iff_le,hla,h5']
     have hX : someI k (1 + n0) cp i=⟨1,0,0,0,[(97,97 + (k.tdiv 8).tmod 3)]⟩ := by simp [someI,someJ,hc,hl1,h5]
     refine ⟨fun e he=>by rw [List.mem_singleton.1 he]; rfl,⟨by simp; omega,by omega⟩,(1 + n0).toNat - (i + 1),_,_,by omega,Cln.cut (s' := [zeroPO,someO (.so 2 (g + 1) 0 (i + 1)) cp (decide (rn=0)),insArr (g + 1) (L ++ [⟨1,0,0,0,[(97,97 + (k.tdiv 8).tmod 3)]⟩])]) 3 (by omega) ?_ (by simp only [List.all_cons,List.all_nil,insArr_ok,Bool.and_true]; simp [zeroPO,someO,objOk,refsV,i64,bV]) [0,2,3,4,5] ?_,i + 1,g + 1,L ++ [⟨1,0,0,0,[(97,97 + (k.tdiv 8).tmod 3)]⟩],rfl,by omega,by simp [hL],by rw [hfin,hX],?_,?_,?_,?_,?_,rfl⟩ <;> (try simp only [zU,Nat.reduceBEq,Nat.reduceShiftRight,Nat.reduceMod,Nat.reduceEqDiff,reduceIte])
     ·simp only [List.take_succ_cons,List.take_zero]
      rw [insTake _ _ (by omega)]
      simp [zeroPO,someO,insArr,Ins.cells,spanC,iD,i64,bV]
     ·simp [updE,trimE_app,refsV,e0,e2,e3,e4,i64]
     ·exact e0
     ·exact e2
     ·exact e3
     ·exact e4
     ·rfl
   ·by_cases h5 : (k.tdiv 16).tmod 3=0
    ·have h5' := eq_true h5
     simp only [zX,simprocAttr,i64,bV,iD,bD,e0,e2,e3,e4,e5,hlt,w1,w2,w3,w4,wc,nz,wd8,wd16,w97,zeroPO,someO,insArr,hc,gt_iff_lt,ge_iff_le,hla,h5']
     refine call_pure hk rfl rfl ?_
     simp only [zX,simprocAttr,i64,bV,iD,bD,e0,e2,e3,e4,e5,hlt,w1,w2,w3,w4,wc,nz,wd8,wd16,w97,zeroPO,someO,insArr,hc,gt_iff_lt,ge_iff_le,hla,h5']
     refine draw_c mix [] [(9,[3],[3])] (by rfl) ?_
     simp only [zX,simprocAttr,i64,bV,iD,bD,e0,e2,e3,e4,e5,hlt,w1,w2,w3,w4,wc,nz,wd8,wd16,w97,zeroPO,someO,insArr,hc,gt_iff_lt,ge_iff_le,hla,h5']
     refine draw_c mix [] [(9,[3],[3])] (by rfl) ?_
     simp only [zX,simprocAttr,i64,bV,iD,bD,e0,e2,e3,e4,e5,hlt,w1,w2,w3,w4,wc,nz,wd8,wd16,w97,zeroPO,someO,insArr,hc,gt_iff_lt,ge_iff_le,hla,h5']
     have hX : someI k (1 + n0) cp i=⟨2,(k.tdiv 8).tmod (1 + n0),((i : Int) + 1).tmod (1 + n0),0,[]⟩ := by simp [someI,someJ,hc,hl1,h5]
     refine ⟨fun e he=>by rw [List.mem_singleton.1 he]; rfl,⟨by simp; omega,by omega⟩,(1 + n0).toNat - (i + 1),_,_,by omega,Cln.cut (s' := [zeroPO,someO (.so 2 (g + 1) 0 (i + 1)) cp (decide (rn=0)),insArr (g + 1) (L ++ [⟨2,(k.tdiv 8).tmod (1 + n0),((i : Int) + 1).tmod (1 + n0),0,[]⟩])]) 3 (by omega) ?_ (by simp only [List.all_cons,List.all_nil,insArr_ok,Bool.and_true]; simp [zeroPO,someO,objOk,refsV,i64,bV]) [0,2,3,4,5] ?_,i + 1,g + 1,L ++ [⟨2,(k.tdiv 8).tmod (1 + n0),((i : Int) + 1).tmod (1 + n0),0,[]⟩],rfl,by omega,by simp [hL],by rw [hfin,hX],?_,?_,?_,?_,?_,rfl⟩ <;> (try simp only [zU,Nat.reduceBEq,Nat.reduceShiftRight,Nat.reduceMod,Nat.reduceEqDiff,reduceIte])
     ·simp only [List.take_succ_cons,List.take_zero]
      rw [insTake _ _ (by omega)]
      simp [zeroPO,someO,insArr,Ins.cells,spanC,iD,i64,bV]
     ·simp [updE,trimE_app,refsV,e0,e2,e3,e4,i64]
     ·exact e0
     ·exact e2
     ·exact e3
     ·exact e4
     ·rfl
    ·have h5' := h5
     simp only [zX,simprocAttr,i64,bV,iD,bD,e0,e2,e3,e4,e5,hlt,w1,w2,w3,w4,wc,nz,wd8,wd16,w97,zeroPO,someO,insArr,hc,gt_iff_lt,ge_iff_le,hla,h5']
     refine call_pure hk rfl rfl ?_
     simp only [zX,simprocAttr,i64,bV,iD,bD,e0,e2,e3,e4,e5,hlt,w1,w2,w3,w4,wc,nz,wd8,wd16,w97,zeroPO,someO,insArr,hc,gt_iff_lt,ge_iff_le,hla,h5']
     refine draw_c mix [] [(9,[3],[3])] (by rfl) ?_
     simp only [zX,simprocAttr,i64,bV,iD,bD,e0,e2,e3,e4,e5,hlt,w1,w2,w3,w4,wc,nz,wd8,wd16,w97,zeroPO,someO,insArr,hc,gt_iff_lt,ge_iff_le,hla,h5']
     have hX : someI k (1 + n0) cp i=⟨2,((i : Int) + 1).tmod (1 + n0),(k.tdiv 8).tmod (1 + n0),0,[]⟩ := by simp [someI,someJ,hc,hl1,h5]
     refine ⟨fun e he=>by rw [List.mem_singleton.1 he]; rfl,⟨by simp; omega,by omega⟩,(1 + n0).toNat - (i + 1),_,_,by omega,Cln.cut (s' := [zeroPO,someO (.so 2 (g + 1) 0 (i + 1)) cp (decide (rn=0)),insArr (g + 1) (L ++ [⟨2,((i : Int) + 1).tmod (1 + n0),(k.tdiv 8).tmod (1 + n0),0,[]⟩])]) 3 (by omega) ?_ (by simp only [List.all_cons,List.all_nil,insArr_ok,Bool.and_true]; simp [zeroPO,someO,objOk,refsV,i64,bV]) [0,2,3,4,5] ?_,i + 1,g + 1,L ++ [⟨2,((i : Int) + 1).tmod (1 + n0),(k.tdiv 8).tmod (1 + n0),0,[]⟩],rfl,by omega,by simp [hL],by rw [hfin,hX],?_,?_,?_,?_,?_,rfl⟩ <;> (try simp only [zU,Nat.reduceBEq,Nat.reduceShiftRight,Nat.reduceMod,Nat.reduceEqDiff,reduceIte])
     ·simp only [List.take_succ_cons,List.take_zero]
      rw [insTake _ _ (by omega)]
      simp [zeroPO,someO,insArr,Ins.cells,spanC,iD,i64,bV]
     ·simp [updE,trimE_app,refsV,e0,e2,e3,e4,i64]
     ·exact e0
     ·exact e2
     ·exact e3
     ·exact e4
     ·rfl
   ·by_cases h5 : (k.tdiv 16).tmod 3=0
    ·have h5' := eq_true h5
     simp only [zX,simprocAttr,i64,bV,iD,bD,e0,e2,e3,e4,e5,hlt,w1,w2,w3,w4,wc,nz,wd8,wd16,w97,zeroPO,someO,insArr,hc,gt_iff_lt,ge_iff_le,hla,h5']
     refine call_pure hk rfl rfl ?_
     simp only [zX,simprocAttr,i64,bV,iD,bD,e0,e2,e3,e4,e5,hlt,w1,w2,w3,w4,wc,nz,wd8,wd16,w97,zeroPO,someO,insArr,hc,gt_iff_lt,ge_iff_le,hla,h5']
     refine draw_c mix [] [(9,[3],[3])] (by rfl) ?_
     simp only [zX,simprocAttr,i64,bV,iD,bD,e0,e2,e3,e4,e5,hlt,w1,w2,w3,w4,wc,nz,wd8,wd16,w97,zeroPO,someO,insArr,hc,gt_iff_lt,ge_iff_le,hla,h5']
     refine draw_c mix [] [(9,[3],[3])] (by rfl) ?_
     simp only [zX,simprocAttr,i64,bV,iD,bD,e0,e2,e3,e4,e5,hlt,w1,w2,w3,w4,wc,nz,wd8,wd16,w97,zeroPO,someO,insArr,hc,gt_iff_lt,ge_iff_le,hla,h5']
     have hX : someI k (1 + n0) cp i=⟨2,(k.tdiv 8).tmod (1 + n0),((i : Int) + 1).tmod (1 + n0),0,[]⟩ := by simp [someI,someJ,hc,hl1,h5]
     refine ⟨fun e he=>by rw [List.mem_singleton.1 he]; rfl,⟨by simp; omega,by omega⟩,(1 + n0).toNat - (i + 1),_,_,by omega,Cln.cut (s' := [zeroPO,someO (.so 2 (g + 1) 0 (i + 1)) cp (decide (rn=0)),insArr (g + 1) (L ++ [⟨2,(k.tdiv 8).tmod (1 + n0),((i : Int) + 1).tmod (1 + n0),0,[]⟩])]) 3 (by omega) ?_ (by simp only [List.all_cons,List.all_nil,insArr_ok,Bool.and_true]; simp [zeroPO,someO,objOk,refsV,i64,bV]) [0,2,3,4,5] ?_,i + 1,g + 1,L ++ [⟨2,(k.tdiv 8).tmod (1 + n0),((i : Int) + 1).tmod (1 + n0),0,[]⟩],rfl,by omega,by simp [hL],by rw [hfin,hX],?_,?_,?_,?_,?_,rfl⟩ <;> (try simp only [zU,Nat.reduceBEq,Nat.reduceShiftRight,Nat.reduceMod,Nat.reduceEqDiff,reduceIte])
     ·simp only [List.take_succ_cons,List.take_zero]
      rw [insTake _ _ (by omega)]
      simp [zeroPO,someO,insArr,Ins.cells,spanC,iD,i64,bV]
     ·simp [updE,trimE_app,refsV,e0,e2,e3,e4,i64]
     ·exact e0
     ·exact e2
     ·exact e3
     ·exact e4
     ·rfl
    ·have h5' := h5
     simp only [zX,simprocAttr,i64,bV,iD,bD,e0,e2,e3,e4,e5,hlt,w1,w2,w3,w4,wc,nz,wd8,wd16,w97,zeroPO,someO,insArr,hc,gt_iff_lt,ge_iff_le,hla,h5']
     refine call_pure hk rfl rfl ?_
     simp only [zX,simprocAttr,i64,bV,iD,bD,e0,e2,e3,e4,e5,hlt,w1,w2,w3,w4,wc,nz,wd8,wd16,w97,zeroPO,someO,insArr,hc,gt_iff_lt,ge_iff_le,hla,h5']
     refine draw_c mix [] [(9,[3],[3])] (by rfl) ?_
     simp only [zX,simprocAttr,i64,bV,iD,bD,e0,e2,e3,e4,e5,hlt,w1,w2,w3,w4,wc,nz,wd8,wd16,w97,zeroPO,someO,insArr,hc,gt_iff_lt,ge_iff_le,hla,h5']
     have hX : someI k (1 + n0) cp i=⟨2,((i : Int) + 1).tmod (1 + n0),(k.tdiv 8).tmod (1 + n0),0,[]⟩ := by simp [someI,someJ,hc,hl1,h5]
     refine ⟨fun e he=>by rw [List.mem_singleton.1 he]; rfl,⟨by simp; omega,by omega⟩,(1 + n0).toNat - (i + 1),_,_,by omega,Cln.cut (s' := [zeroPO,someO (.so 2 (g + 1) 0 (i + 1)) cp (decide (rn=0)),insArr (g + 1) (L ++ [⟨2,((i : Int) + 1).tmod (1 + n0),(k.tdiv 8).tmod (1 + n0),0,[]⟩])]) 3 (by omega) ?_ (by simp only [List.all_cons,List.all_nil,insArr_ok,Bool.and_true]; simp [zeroPO,someO,objOk,refsV,i64,bV]) [0,2,3,4,5] ?_,i + 1,g + 1,L ++ [⟨2,((i : Int) + 1).tmod (1 + n0),(k.tdiv 8).tmod (1 + n0),0,[]⟩],rfl,by omega,by simp [hL],by rw [hfin,hX],?_,?_,?_,?_,?_,rfl⟩ <;> (try simp only [zU,Nat.reduceBEq,Nat.reduceShiftRight,Nat.reduceMod,Nat.reduceEqDiff,reduceIte])
     ·simp only [List.take_succ_cons,List.take_zero]
      rw [insTake _ _ (by omega)]
      simp [zeroPO,someO,insArr,Ins.cells,spanC,iD,i64,bV]
     ·simp [updE,trimE_app,refsV,e0,e2,e3,e4,i64]
     ·exact e0
     ·exact e2
     ·exact e3
     ·exact e4
     ·rfl
   ·simp only [zX,simprocAttr,i64,bV,iD,bD,e0,e2,e3,e4,e5,hlt,w1,w2,w3,w4,wc,nz,wd8,wd16,w97,zeroPO,someO,insArr,hc,gt_iff_lt,ge_iff_le,hla]
    refine call_pure hk rfl rfl ?_
    simp only [zX,simprocAttr,i64,bV,iD,bD,e0,e2,e3,e4,e5,hlt,w1,w2,w3,w4,wc,nz,wd8,wd16,w97,zeroPO,someO,insArr,hc,gt_iff_lt,ge_iff_le,hla]
    have hX : someI k (1 + n0) cp i=⟨3,(k.tdiv 8).tmod (1 + n0),0,0,[]⟩ := by simp [someI,someJ,hc,hl1]
    refine ⟨fun e he=>by rw [List.mem_singleton.1 he]; rfl,⟨by simp; omega,by omega⟩,(1 + n0).toNat - (i + 1),_,_,by omega,Cln.cut (s' := [zeroPO,someO (.so 2 (g + 1) 0 (i + 1)) cp (decide (rn=0)),insArr (g + 1) (L ++ [⟨3,(k.tdiv 8).tmod (1 + n0),0,0,[]⟩])]) 3 (by omega) ?_ (by simp only [List.all_cons,List.all_nil,insArr_ok,Bool.and_true]; simp [zeroPO,someO,objOk,refsV,i64,bV]) [0,2,3,4,5] ?_,i + 1,g + 1,L ++ [⟨3,(k.tdiv 8).tmod (1 + n0),0,0,[]⟩],rfl,by omega,by simp [hL],by rw [hfin,hX],?_,?_,?_,?_,?_,rfl⟩ <;> (try simp only [zU,Nat.reduceBEq,Nat.reduceShiftRight,Nat.reduceMod,Nat.reduceEqDiff,reduceIte])
    ·simp only [List.take_succ_cons,List.take_zero]
     rw [insTake _ _ (by omega)]
     simp [zeroPO,someO,insArr,Ins.cells,spanC,iD,i64,bV]
    ·simp [updE,trimE_app,refsV,e0,e2,e3,e4,i64]
    ·exact e0
    ·exact e2
    ·exact e3
    ·exact e4
    ·rfl
   ·by_cases h5 : 0 < cp
    ·have h5' := eq_true h5
     have nc : ¬ 2 * cp=0 := by omega
     simp only [zX,simprocAttr,i64,bV,iD,bD,e0,e2,e3,e4,e5,hlt,w1,w2,w3,w4,wc,nz,wd8,wd16,w97,zeroPO,someO,insArr,hc,gt_iff_lt,ge_iff_le,hla,h5',nc]
     refine call_pure hk rfl rfl ?_
     simp only [zX,simprocAttr,i64,bV,iD,bD,e0,e2,e3,e4,e5,hlt,w1,w2,w3,w4,wc,nz,wd8,wd16,w97,zeroPO,someO,insArr,hc,gt_iff_lt,ge_iff_le,hla,h5',nc]
     have hX : someI k (1 + n0) cp i=⟨4,0,0,(k.tdiv 8).tmod (2 * cp),[]⟩ := by simp [someI,someJ,hc,hl1,h5]
     refine ⟨fun e he=>by rw [List.mem_singleton.1 he]; rfl,⟨by simp; omega,by omega⟩,(1 + n0).toNat - (i + 1),_,_,by omega,Cln.cut (s' := [zeroPO,someO (.so 2 (g + 1) 0 (i + 1)) cp (decide (rn=0)),insArr (g + 1) (L ++ [⟨4,0,0,(k.tdiv 8).tmod (2 * cp),[]⟩])]) 3 (by omega) ?_ (by simp only [List.all_cons,List.all_nil,insArr_ok,Bool.and_true]; simp [zeroPO,someO,objOk,refsV,i64,bV]) [0,2,3,4,5] ?_,i + 1,g + 1,L ++ [⟨4,0,0,(k.tdiv 8).tmod (2 * cp),[]⟩],rfl,by omega,by simp [hL],by rw [hfin,hX],?_,?_,?_,?_,?_,rfl⟩ <;> (try simp only [zU,Nat.reduceBEq,Nat.reduceShiftRight,Nat.reduceMod,Nat.reduceEqDiff,reduceIte])
     ·simp only [List.take_succ_cons,List.take_zero]
      rw [insTake _ _ (by omega)]
      simp [zeroPO,someO,insArr,Ins.cells,spanC,iD,i64,bV]
     ·simp [updE,trimE_app,refsV,e0,e2,e3,e4,i64]
     ·exact e0
     ·exact e2
     ·exact e3
     ·exact e4
     ·rfl
    ·have h5' := h5
     simp only [zX,simprocAttr,i64,bV,iD,bD,e0,e2,e3,e4,e5,hlt,w1,w2,w3,w4,wc,nz,wd8,wd16,w97,zeroPO,someO,insArr,hc,gt_iff_lt,ge_iff_le,hla,h5']
     refine call_pure hk rfl rfl ?_
     simp only [zX,simprocAttr,i64,bV,iD,bD,e0,e2,e3,e4,e5,hlt,w1,w2,w3,w4,wc,nz,wd8,wd16,w97,zeroPO,someO,insArr,hc,gt_iff_lt,ge_iff_le,hla,h5']
     have hX : someI k (1 + n0) cp i=⟨0,0,0,0,[]⟩ := by simp [someI,someJ,hc,hl1,h5]
     refine ⟨fun e he=>by rw [List.mem_singleton.1 he]; rfl,⟨by simp; omega,by omega⟩,(1 + n0).toNat - (i + 1),_,_,by omega,Cln.cut (s' := [zeroPO,someO (.so 2 (g + 1) 0 (i + 1)) cp (decide (rn=0)),insArr (g + 1) (L ++ [⟨0,0,0,0,[]⟩])]) 3 (by omega) ?_ (by simp only [List.all_cons,List.all_nil,insArr_ok,Bool.and_true]; simp [zeroPO,someO,objOk,refsV,i64,bV]) [0,2,3,4,5] ?_,i + 1,g + 1,L ++ [⟨0,0,0,0,[]⟩],rfl,by omega,by simp [hL],by rw [hfin,hX],?_,?_,?_,?_,?_,rfl⟩ <;> (try simp only [zU,Nat.reduceBEq,Nat.reduceShiftRight,Nat.reduceMod,Nat.reduceEqDiff,reduceIte])
     ·simp only [List.take_succ_cons,List.take_zero]
      rw [insTake _ _ (by omega)]
      simp [zeroPO,someO,insArr,Ins.cells,spanC,iD,i64,bV]
     ·simp [updE,trimE_app,refsV,e0,e2,e3,e4,i64]
     ·exact e0
     ·exact e2
     ·exact e3
     ·exact e4
     ·rfl
   ·by_cases h5 : 0 < (k.tdiv 8).tmod 3
    ·have h5' := eq_true h5
     simp only [zX,simprocAttr,i64,bV,iD,bD,e0,e2,e3,e4,e5,hlt,w1,w2,w3,w4,wc,nz,wd8,wd16,w97,zeroPO,someO,insArr,hc,gt_iff_lt,ge_iff_le,hla,h5']
     refine call_pure hk rfl rfl ?_
     simp only [zX,simprocAttr,i64,bV,iD,bD,e0,e2,e3,e4,e5,hlt,w1,w2,w3,w4,wc,nz,wd8,wd16,w97,zeroPO,someO,insArr,hc,gt_iff_lt,ge_iff_le,hla,h5']
     have hX : someI k (1 + n0) cp i=⟨5,0,0,(k.tdiv 8).tmod 6,[]⟩ := by simp [someI,someJ,hc,hl1,h5]
     refine ⟨fun e he=>by rw [List.mem_singleton.1 he]; rfl,⟨by simp; omega,by omega⟩,(1 + n0).toNat - (i + 1),_,_,by omega,Cln.cut (s' := [zeroPO,someO (.so 2 (g + 1) 0 (i + 1)) cp (decide (rn=0)),insArr (g + 1) (L ++ [⟨5,0,0,(k.tdiv 8).tmod 6,[]⟩])]) 3 (by omega) ?_ (by simp only [List.all_cons,List.all_nil,insArr_ok,Bool.and_true]; simp [zeroPO,someO,objOk,refsV,i64,bV]) [0,2,3,4,5] ?_,i + 1,g + 1,L ++ [⟨5,0,0,(k.tdiv 8).tmod 6,[]⟩],rfl,by omega,by simp [hL],by rw [hfin,hX],?_,?_,?_,?_,?_,rfl⟩ <;> (try simp only [zU,Nat.reduceBEq,Nat.reduceShiftRight,Nat.reduceMod,Nat.reduceEqDiff,reduceIte])
     ·simp only [List.take_succ_cons,List.take_zero]
      rw [insTake _ _ (by omega)]
      simp [zeroPO,someO,insArr,Ins.cells,spanC,iD,i64,bV]
     ·simp [updE,trimE_app,refsV,e0,e2,e3,e4,i64]
     ·exact e0
     ·exact e2
     ·exact e3
     ·exact e4
     ·rfl
    ·have h5' := h5
     simp only [zX,simprocAttr,i64,bV,iD,bD,e0,e2,e3,e4,e5,hlt,w1,w2,w3,w4,wc,nz,wd8,wd16,w97,zeroPO,someO,insArr,hc,gt_iff_lt,ge_iff_le,hla,h5']
     refine call_pure hk rfl rfl ?_
     simp only [zX,simprocAttr,i64,bV,iD,bD,e0,e2,e3,e4,e5,hlt,w1,w2,w3,w4,wc,nz,wd8,wd16,w97,zeroPO,someO,insArr,hc,gt_iff_lt,ge_iff_le,hla,h5']
     have hX : someI k (1 + n0) cp i=⟨0,0,0,0,[]⟩ := by simp [someI,someJ,hc,hl1,h5]
     refine ⟨fun e he=>by rw [List.mem_singleton.1 he]; rfl,⟨by simp; omega,by omega⟩,(1 + n0).toNat - (i + 1),_,_,by omega,Cln.cut (s' := [zeroPO,someO (.so 2 (g + 1) 0 (i + 1)) cp (decide (rn=0)),insArr (g + 1) (L ++ [⟨0,0,0,0,[]⟩])]) 3 (by omega) ?_ (by simp only [List.all_cons,List.all_nil,insArr_ok,Bool.and_true]; simp [zeroPO,someO,objOk,refsV,i64,bV]) [0,2,3,4,5] ?_,i + 1,g + 1,L ++ [⟨0,0,0,0,[]⟩],rfl,by omega,by simp [hL],by rw [hfin,hX],?_,?_,?_,?_,?_,rfl⟩ <;> (try simp only [zU,Nat.reduceBEq,Nat.reduceShiftRight,Nat.reduceMod,Nat.reduceEqDiff,reduceIte])
     ·simp only [List.take_succ_cons,List.take_zero]
      rw [insTake _ _ (by omega)]
      simp [zeroPO,someO,insArr,Ins.cells,spanC,iD,i64,bV]
     ·simp [updE,trimE_app,refsV,e0,e2,e3,e4,i64]
     ·exact e0
     ·exact e2
     ·exact e3
     ·exact e4
     ·rfl
 ·have hie : i=(1 + n0).toNat := by omega
  simp only [zX,simprocAttr,i64,bV,iD,bD,e0,e2,e3,e4,e5,hlt,zeroPO,someO,insArr]
  rw [frz_data 7 0 _ _ _ (by simp [hL]),if_pos (by simp [hL])]
  subst hie
  rw [hset]
  all_goals first | exact ⟨rfl,rfl⟩ | exact ⟨rfl,trivial⟩ | rfl | trivial | (rw [reV_eq]; rfl)
end Go.Proofs.Ytdofoappodmcoaa
