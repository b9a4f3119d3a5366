/- A part of the proof (K14B). -/
import Derived.Test.YtdofoappodmcoaaKS28
set_option linter.unusedSimpArgs false
set_option linter.unusedVariables false
set_option maxRecDepth 100000
set_option maxHeartbeats 80000000
namespace Go.Proofs.Ytdofoappodmcoaa
open Go.VL Go.Proofs.Try
theorem formed_1 (g : Prg) (x : Ins) (hc0 : 0≤g.caps) (hc1 : g.caps≤9) (hl : x.set.length≤1000000000) (hcase : x.op=1) : PureOK prog 94 [prgV g,.ag (x.cells.map .d)] (bV (insB g.ins.length g.caps g.runes x)) := by
 have hv := ref3Valid_ok x.set hl
 have w2 : IntKind.i64.wrap (2 * g.caps)=2 * g.caps := w64 _ (by omega)
 obtain ⟨ins,caps,runes⟩ := g
 obtain ⟨op,xx,y,n,set⟩ := x
 simp only at hv hc0 hc1 hl w2 hcase ⊢
 simp only [i64] at hv
 generalize hn : (ins.length : Int)=N at *
 subst hcase
 have hE := setE_cases set
 have hhi := setE_hi (l := set)
 generalize hse : setE set=E at *
 rcases Nat.eq_zero_or_pos set.length with hz | hp
 ·have hz' : (set.length : Int)=0 := by omega
  have hnl : set[set.length - 1]?=none := by rw [List.getElem?_eq_none]; omega
  rcases hE with rfl | rfl | rfl <;> cases runes
  all_goals
   refine fn_ok func94 rfl ntmps94 results94 rfl 0 1152921504606847103 (by simp) (by simp) ?_
   simp only [zX,simprocAttr,i64,bV,iD,bD,prgV_eq,Ins.cells,List.map_cons,List.map_nil,hn,gt_iff_lt,ge_iff_le,ne_eq]
   repeat' (first
 |(with_reducible refine And.intro (by first | omega | exact ⟨by omega,by omega⟩ | (simp; done)) ?_)
 |(with_reducible refine condS (fun hc=>?_) (fun hc=>?_) <;> simp only [zX,simprocAttr,i64,bV,iD,bD,hn,gt_iff_lt,ge_iff_le,ne_eq,w2,hc])
 |(with_reducible refine guardS_t (fun hc=>?_) (fun hc=>?_) <;> simp only [zX,simprocAttr,i64,bV,iD,bD,hn,gt_iff_lt,ge_iff_le,ne_eq,w2,hc])
 |(with_reducible refine guardS_f (fun hc=>?_) (fun hc=>?_) <;> simp only [zX,simprocAttr,i64,bV,iD,bD,hn,gt_iff_lt,ge_iff_le,ne_eq,w2,hc])
 |(with_reducible refine guardS_nt (fun hc=>?_) (fun hc=>?_) <;> simp only [zX,simprocAttr,i64,bV,iD,bD,hn,gt_iff_lt,ge_iff_le,ne_eq,w2,hc])
 |(with_reducible refine guardS_nf (fun hc=>?_) (fun hc=>?_) <;> simp only [zX,simprocAttr,i64,bV,iD,bD,hn,gt_iff_lt,ge_iff_le,ne_eq,w2,hc])
 |(with_reducible refine condSb (fun hc=>?_) (fun hc=>?_) <;> simp only [zX,simprocAttr,i64,bV,iD,bD,hn,gt_iff_lt,ge_iff_le,ne_eq,w2,hc])
 |(with_reducible refine guardS_b (fun hc=>?_) (fun hc=>?_) <;> simp only [zX,simprocAttr,i64,bV,iD,bD,hn,gt_iff_lt,ge_iff_le,ne_eq,w2,hc]))
  any_goals
   refine call_pure hv rfl rfl ?_
   simp only [zX,simprocAttr,i64,bV,iD,bD,hz']
  all_goals (refine Eq.symm ?_; first | (simp [insB,unusedB,opOk,hiB,hse,hnl,-List.length_eq_zero_iff]; done) | (simp [insB,unusedB,opOk,hiB,hse,hnl,-List.length_eq_zero_iff]; omega))
 ·have hz' : ¬ (set.length : Int)=0 := by omega
  obtain ⟨sl,hsl⟩ : ∃ x,set[set.length - 1]?=some x := ⟨_,List.getElem?_eq_getElem (by omega)⟩
  have w3 : IntKind.i64.wrap ((set.length : Int) - 1)=((set.length - 1 : Nat) : Int) := by rw [w64 _ (by omega)]; omega
  have b1 : (0 : Int)≤((set.length - 1 : Nat) : Int) := by omega
  have b2 : ((set.length - 1 : Nat) : Int) < (set.length : Int) := by omega
  have hm := List.mem_of_getElem? hsl
  rcases hE with rfl | rfl | rfl <;> cases runes
  all_goals
   refine fn_ok func94 rfl ntmps94 results94 rfl 0 1152921504606847103 (by simp) (by simp) ?_
   simp only [zX,simprocAttr,i64,bV,iD,bD,prgV_eq,Ins.cells,List.map_cons,List.map_nil,hn,gt_iff_lt,ge_iff_le,ne_eq]
   repeat' (first
 |(with_reducible refine And.intro (by first | omega | exact ⟨by omega,by omega⟩ | (simp; done)) ?_)
 |(with_reducible refine condS (fun hc=>?_) (fun hc=>?_) <;> simp only [zX,simprocAttr,i64,bV,iD,bD,hn,gt_iff_lt,ge_iff_le,ne_eq,w2,hc])
 |(with_reducible refine guardS_t (fun hc=>?_) (fun hc=>?_) <;> simp only [zX,simprocAttr,i64,bV,iD,bD,hn,gt_iff_lt,ge_iff_le,ne_eq,w2,hc])
 |(with_reducible refine guardS_f (fun hc=>?_) (fun hc=>?_) <;> simp only [zX,simprocAttr,i64,bV,iD,bD,hn,gt_iff_lt,ge_iff_le,ne_eq,w2,hc])
 |(with_reducible refine guardS_nt (fun hc=>?_) (fun hc=>?_) <;> simp only [zX,simprocAttr,i64,bV,iD,bD,hn,gt_iff_lt,ge_iff_le,ne_eq,w2,hc])
 |(with_reducible refine guardS_nf (fun hc=>?_) (fun hc=>?_) <;> simp only [zX,simprocAttr,i64,bV,iD,bD,hn,gt_iff_lt,ge_iff_le,ne_eq,w2,hc])
 |(with_reducible refine condSb (fun hc=>?_) (fun hc=>?_) <;> simp only [zX,simprocAttr,i64,bV,iD,bD,hn,gt_iff_lt,ge_iff_le,ne_eq,w2,hc])
 |(with_reducible refine guardS_b (fun hc=>?_) (fun hc=>?_) <;> simp only [zX,simprocAttr,i64,bV,iD,bD,hn,gt_iff_lt,ge_iff_le,ne_eq,w2,hc]))
  any_goals
   refine call_pure hv rfl rfl ?_
   simp only [zX,simprocAttr,i64,bV,iD,bD,spanC,hz',w3,b1,b2,hsl]
  all_goals (refine Eq.symm ?_; first | (simp [insB,unusedB,opOk,hiB,hse,hsl,-List.length_eq_zero_iff]; done) | (simp [insB,unusedB,opOk,hiB,hse,hsl,-List.length_eq_zero_iff]; omega) | (have := hhi rfl sl hm; simp [insB,unusedB,opOk,hiB,hse,hsl,-List.length_eq_zero_iff]; omega))
end Go.Proofs.Ytdofoappodmcoaa
