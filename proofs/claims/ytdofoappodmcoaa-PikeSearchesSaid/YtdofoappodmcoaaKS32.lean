/- A part of the proof (K14C K14D K14E). -/
import Derived.Test.YtdofoappodmcoaaKS28
import Derived.Test.YtdofoappodmcoaaKS31
set_option linter.unusedSimpArgs false
set_option linter.unusedVariables false
set_option maxRecDepth 100000
set_option maxHeartbeats 80000000
namespace Go.Proofs.Ytdofoappodmcoaa
open Go.VL Go.Proofs.Try
theorem formed_2 (g : Prg) (x : Ins) (hc0 : 0≤g.caps) (hc1 : g.caps≤9) (hl : x.set.length≤1000000000) (hcase : x.op=2) : PureOK prog 94 [prgV g,.ag (x.cells.map .d)] (bV (insB g.ins.length g.caps g.runes x)) := by
 have w2 : IntKind.i64.wrap (2 * g.caps)=2 * g.caps := w64 _ (by omega)
 obtain ⟨ins,caps,runes⟩ := g
 obtain ⟨op,xx,y,n,set⟩ := x
 simp only at hc0 hc1 hl w2 hcase ⊢
 generalize hn : (ins.length : Int)=N at *
 subst hcase
 refine fn_ok func94 rfl ntmps94 results94 rfl 0 1152921504606847103 (by simp) (by simp) ?_
 simp only [zX,simprocAttr,i64,bV,iD,bD,prgV_eq,Ins.cells,List.map_cons,List.map_nil,hn,gt_iff_lt,ge_iff_le,ne_eq]
 repeat' (first
 |(with_reducible refine And.intro (by first | omega | exact ⟨by omega,by omega⟩ | (simp; done)) ?_)
 |(with_reducible refine condS (fun hc=>?_) (fun hc=>?_) <;> simp only [zX,simprocAttr,i64,bV,iD,bD,hn,gt_iff_lt,ge_iff_le,ne_eq,w2,hc])
 |(with_reducible refine guardS_t (fun hc=>?_) (fun hc=>?_) <;> simp only [zX,simprocAttr,i64,bV,iD,bD,hn,gt_iff_lt,ge_iff_le,ne_eq,w2,hc])
 |(with_reducible refine guardS_f (fun hc=>?_) (fun hc=>?_) <;> simp only [zX,simprocAttr,i64,bV,iD,bD,hn,gt_iff_lt,ge_iff_le,ne_eq,w2,hc])
 |(with_reducible refine guardS_nt (fun hc=>?_) (fun hc=>?_) <;> simp only [zX,simprocAttr,i64,bV,iD,bD,hn,gt_iff_lt,ge_iff_le,ne_eq,w2,hc])
 |(with_reducible refine guardS_nf (fun hc=>?_) (fun hc=>?_) <;> simp only [zX,simprocAttr,i64,bV,iD,bD,hn,gt_iff_lt,ge_iff_le,ne_eq,w2,hc])
 |(with_reducible refine condSb (fun hc=>?_) (fun hc=>?_) <;> simp only [zX,simprocAttr,i64,bV,iD,bD,hn,gt_iff_lt,ge_iff_le,ne_eq,w2,hc])
 |(with_reducible refine guardS_b (fun hc=>?_) (fun hc=>?_) <;> simp only [zX,simprocAttr,i64,bV,iD,bD,hn,gt_iff_lt,ge_iff_le,ne_eq,w2,hc]))
 all_goals (refine Eq.symm ?_; first | (simp [insB,unusedB,opOk,tgtB,-List.length_eq_zero_iff]; done) | (simp [insB,unusedB,opOk,tgtB,-List.length_eq_zero_iff]; omega) | (rw [Bool.eq_iff_iff]; simp [insB,unusedB,opOk,tgtB,-List.length_eq_zero_iff]; omega))
theorem formed_3 (g : Prg) (x : Ins) (hc0 : 0≤g.caps) (hc1 : g.caps≤9) (hl : x.set.length≤1000000000) (hcase : x.op=3) : PureOK prog 94 [prgV g,.ag (x.cells.map .d)] (bV (insB g.ins.length g.caps g.runes x)) := by
 have w2 : IntKind.i64.wrap (2 * g.caps)=2 * g.caps := w64 _ (by omega)
 obtain ⟨ins,caps,runes⟩ := g
 obtain ⟨op,xx,y,n,set⟩ := x
 simp only at hc0 hc1 hl w2 hcase ⊢
 generalize hn : (ins.length : Int)=N at *
 subst hcase
 refine fn_ok func94 rfl ntmps94 results94 rfl 0 1152921504606847103 (by simp) (by simp) ?_
 simp only [zX,simprocAttr,i64,bV,iD,bD,prgV_eq,Ins.cells,List.map_cons,List.map_nil,hn,gt_iff_lt,ge_iff_le,ne_eq]
 repeat' (first
 |(with_reducible refine And.intro (by first | omega | exact ⟨by omega,by omega⟩ | (simp; done)) ?_)
 |(with_reducible refine condS (fun hc=>?_) (fun hc=>?_) <;> simp only [zX,simprocAttr,i64,bV,iD,bD,hn,gt_iff_lt,ge_iff_le,ne_eq,w2,hc])
 |(with_reducible refine guardS_t (fun hc=>?_) (fun hc=>?_) <;> simp only [zX,simprocAttr,i64,bV,iD,bD,hn,gt_iff_lt,ge_iff_le,ne_eq,w2,hc])
 |(with_reducible refine guardS_f (fun hc=>?_) (fun hc=>?_) <;> simp only [zX,simprocAttr,i64,bV,iD,bD,hn,gt_iff_lt,ge_iff_le,ne_eq,w2,hc])
 |(with_reducible refine guardS_nt (fun hc=>?_) (fun hc=>?_) <;> simp only [zX,simprocAttr,i64,bV,iD,bD,hn,gt_iff_lt,ge_iff_le,ne_eq,w2,hc])
 |(with_reducible refine guardS_nf (fun hc=>?_) (fun hc=>?_) <;> simp only [zX,simprocAttr,i64,bV,iD,bD,hn,gt_iff_lt,ge_iff_le,ne_eq,w2,hc])
 |(with_reducible refine condSb (fun hc=>?_) (fun hc=>?_) <;> simp only [zX,simprocAttr,i64,bV,iD,bD,hn,gt_iff_lt,ge_iff_le,ne_eq,w2,hc])
 |(with_reducible refine guardS_b (fun hc=>?_) (fun hc=>?_) <;> simp only [zX,simprocAttr,i64,bV,iD,bD,hn,gt_iff_lt,ge_iff_le,ne_eq,w2,hc]))
 all_goals (refine Eq.symm ?_; first | (simp [insB,unusedB,opOk,tgtB,-List.length_eq_zero_iff]; done) | (simp [insB,unusedB,opOk,tgtB,-List.length_eq_zero_iff]; omega) | (rw [Bool.eq_iff_iff]; simp [insB,unusedB,opOk,tgtB,-List.length_eq_zero_iff]; omega))
theorem formed_4 (g : Prg) (x : Ins) (hc0 : 0≤g.caps) (hc1 : g.caps≤9) (hl : x.set.length≤1000000000) (hcase : x.op=4) : PureOK prog 94 [prgV g,.ag (x.cells.map .d)] (bV (insB g.ins.length g.caps g.runes x)) := by
 have w2 : IntKind.i64.wrap (2 * g.caps)=2 * g.caps := w64 _ (by omega)
 obtain ⟨ins,caps,runes⟩ := g
 obtain ⟨op,xx,y,n,set⟩ := x
 simp only at hc0 hc1 hl w2 hcase ⊢
 generalize hn : (ins.length : Int)=N at *
 subst hcase
 refine fn_ok func94 rfl ntmps94 results94 rfl 0 1152921504606847103 (by simp) (by simp) ?_
 simp only [zX,simprocAttr,i64,bV,iD,bD,prgV_eq,Ins.cells,List.map_cons,List.map_nil,hn,gt_iff_lt,ge_iff_le,ne_eq]
 repeat' (first
 |(with_reducible refine And.intro (by first | omega | exact ⟨by omega,by omega⟩ | (simp; done)) ?_)
 |(with_reducible refine condS (fun hc=>?_) (fun hc=>?_) <;> simp only [zX,simprocAttr,i64,bV,iD,bD,hn,gt_iff_lt,ge_iff_le,ne_eq,w2,hc])
 |(with_reducible refine guardS_t (fun hc=>?_) (fun hc=>?_) <;> simp only [zX,simprocAttr,i64,bV,iD,bD,hn,gt_iff_lt,ge_iff_le,ne_eq,w2,hc])
 |(with_reducible refine guardS_f (fun hc=>?_) (fun hc=>?_) <;> simp only [zX,simprocAttr,i64,bV,iD,bD,hn,gt_iff_lt,ge_iff_le,ne_eq,w2,hc])
 |(with_reducible refine guardS_nt (fun hc=>?_) (fun hc=>?_) <;> simp only [zX,simprocAttr,i64,bV,iD,bD,hn,gt_iff_lt,ge_iff_le,ne_eq,w2,hc])
 |(with_reducible refine guardS_nf (fun hc=>?_) (fun hc=>?_) <;> simp only [zX,simprocAttr,i64,bV,iD,bD,hn,gt_iff_lt,ge_iff_le,ne_eq,w2,hc])
 |(with_reducible refine condSb (fun hc=>?_) (fun hc=>?_) <;> simp only [zX,simprocAttr,i64,bV,iD,bD,hn,gt_iff_lt,ge_iff_le,ne_eq,w2,hc])
 |(with_reducible refine guardS_b (fun hc=>?_) (fun hc=>?_) <;> simp only [zX,simprocAttr,i64,bV,iD,bD,hn,gt_iff_lt,ge_iff_le,ne_eq,w2,hc]))
 all_goals (refine Eq.symm ?_; first | (simp [insB,unusedB,opOk,tgtB,-List.length_eq_zero_iff]; done) | (simp [insB,unusedB,opOk,tgtB,-List.length_eq_zero_iff]; omega) | (rw [Bool.eq_iff_iff]; simp [insB,unusedB,opOk,tgtB,-List.length_eq_zero_iff]; omega))
theorem formed_5 (g : Prg) (x : Ins) (hc0 : 0≤g.caps) (hc1 : g.caps≤9) (hl : x.set.length≤1000000000) (hcase : x.op=5) : PureOK prog 94 [prgV g,.ag (x.cells.map .d)] (bV (insB g.ins.length g.caps g.runes x)) := by
 have w2 : IntKind.i64.wrap (2 * g.caps)=2 * g.caps := w64 _ (by omega)
 obtain ⟨ins,caps,runes⟩ := g
 obtain ⟨op,xx,y,n,set⟩ := x
 simp only at hc0 hc1 hl w2 hcase ⊢
 generalize hn : (ins.length : Int)=N at *
 subst hcase
 refine fn_ok func94 rfl ntmps94 results94 rfl 0 1152921504606847103 (by simp) (by simp) ?_
 simp only [zX,simprocAttr,i64,bV,iD,bD,prgV_eq,Ins.cells,List.map_cons,List.map_nil,hn,gt_iff_lt,ge_iff_le,ne_eq]
 repeat' (first
 |(with_reducible refine And.intro (by first | omega | exact ⟨by omega,by omega⟩ | (simp; done)) ?_)
 |(with_reducible refine condS (fun hc=>?_) (fun hc=>?_) <;> simp only [zX,simprocAttr,i64,bV,iD,bD,hn,gt_iff_lt,ge_iff_le,ne_eq,w2,hc])
 |(with_reducible refine guardS_t (fun hc=>?_) (fun hc=>?_) <;> simp only [zX,simprocAttr,i64,bV,iD,bD,hn,gt_iff_lt,ge_iff_le,ne_eq,w2,hc])
 |(with_reducible refine guardS_f (fun hc=>?_) (fun hc=>?_) <;> simp only [zX,simprocAttr,i64,bV,iD,bD,hn,gt_iff_lt,ge_iff_le,ne_eq,w2,hc])
 |(with_reducible refine guardS_nt (fun hc=>?_) (fun hc=>?_) <;> simp only [zX,simprocAttr,i64,bV,iD,bD,hn,gt_iff_lt,ge_iff_le,ne_eq,w2,hc])
 |(with_reducible refine guardS_nf (fun hc=>?_) (fun hc=>?_) <;> simp only [zX,simprocAttr,i64,bV,iD,bD,hn,gt_iff_lt,ge_iff_le,ne_eq,w2,hc])
 |(with_reducible refine condSb (fun hc=>?_) (fun hc=>?_) <;> simp only [zX,simprocAttr,i64,bV,iD,bD,hn,gt_iff_lt,ge_iff_le,ne_eq,w2,hc])
 |(with_reducible refine guardS_b (fun hc=>?_) (fun hc=>?_) <;> simp only [zX,simprocAttr,i64,bV,iD,bD,hn,gt_iff_lt,ge_iff_le,ne_eq,w2,hc]))
 all_goals (refine Eq.symm ?_; first | (simp [insB,unusedB,opOk,tgtB,-List.length_eq_zero_iff]; done) | (simp [insB,unusedB,opOk,tgtB,-List.length_eq_zero_iff]; omega) | (rw [Bool.eq_iff_iff]; simp [insB,unusedB,opOk,tgtB,-List.length_eq_zero_iff]; omega))
theorem formed10_ok (g : Prg) (x : Ins) (hc0 : 0≤g.caps) (hc1 : g.caps≤9) (hl : x.set.length≤1000000000) : PureOK prog 94 [prgV g,.ag (x.cells.map .d)] (bV (insB g.ins.length g.caps g.runes x)) := by
 have hcase : x.op=0 ∨ x.op=1 ∨ x.op=2 ∨ x.op=3 ∨ x.op=4 ∨ x.op=5 ∨ (¬ x.op=0∧¬ x.op=1∧¬ x.op=2∧¬ x.op=3∧¬ x.op=4∧¬ x.op=5) := by omega
 rcases hcase with h | h | h | h | h | h | h
 ·exact formed_0 g x hc0 hc1 hl h
 ·exact formed_1 g x hc0 hc1 hl h
 ·exact formed_2 g x hc0 hc1 hl h
 ·exact formed_3 g x hc0 hc1 hl h
 ·exact formed_4 g x hc0 hc1 hl h
 ·exact formed_5 g x hc0 hc1 hl h
 ·exact formed_o g x hc0 hc1 hl h
end Go.Proofs.Ytdofoappodmcoaa
