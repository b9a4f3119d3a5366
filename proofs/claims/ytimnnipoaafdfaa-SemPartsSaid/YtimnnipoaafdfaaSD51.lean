/- A part of the proof (S55). -/
import Derived.Test.YtimnnipoaafdfaaSD42
import Derived.Test.YtimnnipoaafdfaaSD49
import Derived.Test.YtimnnipoaafdfaaSD50
import Derived.Test.YtimnnipoaafdfaaSD48
set_option linter.unusedSimpArgs false
set_option linter.unusedVariables false
set_option maxRecDepth 100000
set_option maxHeartbeats 80000000
namespace Go.Proofs.Ytimnnipoaafdfaa
open Go.VL Go.Proofs.Try
theorem tquoI {n : Int} (k : Int) (hk : 1≤k) (h : I64 n) : I64 (n.tdiv k) := by
 unfold I64 at *
 rcases Int.le_total 0 n with h0 | h0
 ·rw [Int.tdiv_eq_ediv_of_nonneg h0]
  have := Int.ediv_le_self k h0
  have := Int.ediv_nonneg h0 (show 0≤k by omega)
  omega
 ·have e : n.tdiv k=-((-n).tdiv k) := by rw [Int.neg_tdiv,Int.neg_neg]
  have h0' : 0≤-n := by omega
  rw [e,Int.tdiv_eq_ediv_of_nonneg h0']
  have := Int.ediv_le_self k h0'
  have := Int.ediv_nonneg h0' (show 0≤k by omega)
  omega
section mk
variable {op mn mx mode n : Int} {set : List (Int × Int)} {kids : List Re} {neg : Bool}
theorem mk_op : (Re.mk op set kids mn mx mode n neg).op=op := rfl
theorem mk_set : (Re.mk op set kids mn mx mode n neg).set=set := rfl
theorem mk_kids : (Re.mk op set kids mn mx mode n neg).kids=kids := rfl
theorem mk_mn : (Re.mk op set kids mn mx mode n neg).mn=mn := rfl
theorem mk_mx : (Re.mk op set kids mn mx mode n neg).mx=mx := rfl
theorem mk_mode : (Re.mk op set kids mn mx mode n neg).mode=mode := rfl
theorem mk_n : (Re.mk op set kids mn mx mode n neg).n=n := rfl
theorem mk_neg : (Re.mk op set kids mn mx mode n neg).neg=neg := rfl
end mk
theorem mat3 (L : List Mat) : ∀ e ∈ List.map (fun x=>List.map V.d x) (List.map matD L),e.length=3 := by
 intro e he
 obtain ⟨c,hc,rfl⟩ := List.mem_map.1 he
 obtain ⟨m,_,rfl⟩ := List.mem_map.1 hc
 rfl
theorem matsL_app (i : Int) (L M : List (Int × CapsL)) : matsL i (L ++ M)=matsL i L ++ matsL i M := by unfold matsL; rw [List.map_append]
theorem matsL_take (i : Int) (L : List (Int × CapsL)) (n : Nat) : matsL i (L.take n)=(matsL i L).take n := by unfold matsL; rw [List.map_take]
theorem parts_data {p q : Pat} {t : List Int} (hp : SmP p) (hq : SmP q) (hc : q.caps=p.caps) (ht : t.length≤12) (hgood : ∀ i : Int,0≤i→i≤t.length→allE p t i (-1) 6000=0) {x : Int} (h0 : 0≤x) (h1 : x≤t.length) :
  ∃ (A B C D : List Mat) (s f sb sc g sd : Int),(f=11 ∨ (f=0∧g=0∧C=A ++ B∧B.length≤600001))∧D=A.take 1∧A.length≤7000∧(∀ m ∈ A,m.c.length≤1000000000)∧(∀ m ∈ B,m.c.length≤1000000000) ∧
   PureOK prog 12 [patV p,.d (intsD t),i64 x,i64 1073741824,i64 6000] (.tu [.d (.sl (A.map matD)),i64 s,i64 0]) ∧
   PureOK prog 12 [patV q,.d (intsD t),i64 x,i64 1073741824,i64 600000] (.tu [.d (.sl (B.map matD)),i64 sb,i64 f]) ∧
   PureOK prog 12 [patV (bothP p q),.d (intsD t),i64 x,i64 1073741824,i64 1200000] (.tu [.d (.sl (C.map matD)),i64 sc,i64 g]) ∧
   PureOK prog 12 [patV (atomQ p),.d (intsD t),i64 x,i64 1073741824,i64 6001] (.tu [.d (.sl (D.map matD)),i64 sd,i64 0]) := by
 have hg := hgood x h0 h1
 obtain ⟨bv,bf⟩ := both_smp hp hq (by omega)
 obtain ⟨av,af⟩ := atomQ_smp hp
 have k1 := semAll_few p t x 6000 hp.fine ht (by omega)
 have k2 := semAll_few q t x 600000 hq.fine ht (by omega)
 have k3 := semAll_few (bothP p q) t x 1200000 bf ht (by omega)
 have k4 := semAll_few (atomQ p) t x 6001 af ht (by omega)
 obtain ⟨d1,d2⟩ := atomQ_law hg hp.runes av (by omega)
 rw [show (6000 : Int) + 1=6001 by omega] at d1 d2
 obtain ⟨hv7,_,_,_⟩ := allE_valid hg
 have hlen := allM_len hg
 have hst := steps_le hg
 rw [hg] at k1
 rw [d1,d2] at k4
 have hvq := valid7_of (F' := 600000) hv7 hq.valid (by rw [hq.runes,hp.runes]) (by omega) (by omega)
 refine ⟨_,_,_,_,_,_,_,_,_,_,?_,matsL_take x _ 1,?_,mats_caps,mats_caps,k1,k2,k3,k4⟩
 ·rcases allE_cases (most := -1) hvq h0 h1 with h | h
  ·right
   obtain ⟨c1,c2⟩ := both_law hg h hc hp.runes bv (F' := 1200000) (by omega) (by omega)
   have hl2 := allM_len h
   have hs2 := steps_le h
   refine ⟨h,c1,by rw [c2,matsL_app],?_⟩
   unfold matsL; rw [List.length_map]; omega
  ·exact .inl h
 ·unfold matsL; rw [List.length_map]; omega
theorem ab_data {t : List Int} (ht : t.length≤12) (hsym : t.all (symB false)=true) {x n mx : Int} (h0 : 0≤x) (h1 : x≤t.length) (hn0 : 0≤n) (hn1 : n≤3) (hx : mx=-1 ∨ (1≤mx∧n≤mx∧mx≤9)) :
  ∃ (U : List Mat) (s s' : Int),U.length≤13∧(∀ m ∈ U,m.c.length≤1000000000) ∧
   PureOK prog 12 [patV (abP n mx 0),.d (intsD t),i64 x,i64 1073741824,i64 6000] (.tu [.d (.sl (U.map matD)),i64 s,i64 0]) ∧
   PureOK prog 12 [patV (abP n mx 1),.d (intsD t),i64 x,i64 1073741824,i64 6000] (.tu [.d (.sl (U.reverse.map matD)),i64 s',i64 0]) := by
 obtain ⟨v0,f0⟩ := ab_smp n mx 0 hn0 hn1 hx (.inl rfl)
 obtain ⟨v1,f1⟩ := ab_smp n mx 1 hn0 hn1 hx (.inr rfl)
 have w : ∀ mode,validR (abP n mx mode)=0→valid7 (abP n mx mode) t 6000=0 := by
  intro mode hv
  unfold valid7
  rw [if_neg (by rw [hv]; simp),if_neg (by omega),if_neg (show ¬ (t.all (symB (abP n mx mode).runes)=false) by rw [show (abP n mx mode).runes=false from rfl,hsym]; simp),if_neg (by omega)]
 obtain ⟨a1,a2⟩ := ab_law (mn := n) (mx := mx) (mode := 0) ht h0 h1 (.inl rfl) (by omega) (by omega) (w 0 v0)
 obtain ⟨b1,b2⟩ := ab_law (mn := n) (mx := mx) (mode := 1) ht h0 h1 (.inr rfl) (by omega) (by omega) (w 1 v1)
 have k1 := semAll_few (abP n mx 0) t x 6000 f0 ht (by omega)
 have k2 := semAll_few (abP n mx 1) t x 6000 f1 ht (by omega)
 rw [a1,a2] at k1
 rw [b1,b2] at k2
 obtain ⟨r1,r2⟩ := abR_rev t n mx (t.length - x.toNat) 0 x
 rw [decide_eq_true rfl,r1] at k2
 rw [decide_eq_false (by decide)] at k1
 generalize abR t n mx false (t.length - x.toNat) 0 x=L at *
 refine ⟨L.map fun e=>(⟨x,e,[]⟩ : Mat),allN (abP n mx 0) t x (-1) 6000,allN (abP n mx 1) t x (-1) 6000,by rw [List.length_map]; omega,?_,?_,?_⟩
 ·intro m hm
  obtain ⟨e,_,rfl⟩ := List.mem_map.1 hm
  simp
 ·have e : matsL x (L.map fun e=>(e,[]))=L.map fun e=>(⟨x,e,[]⟩ : Mat) := by unfold matsL; rw [List.map_map]; rfl
  rw [e] at k1
  exact k1
 ·have e : matsL x (L.reverse.map fun e=>(e,[]))=(L.map fun e=>(⟨x,e,[]⟩ : Mat)).reverse := by unfold matsL; rw [List.map_map,List.map_reverse]; rfl
  rw [e] at k2
  exact k2
theorem semPartsL_ok (l : List Int) (hl : ∀ x ∈ l,I64 x) (m : List Int) (hm : ∀ x ∈ m,I64 x) (k : List Int) (hk : ∀ x ∈ k,I64 x) (at_ bd : Int) (ha : I64 at_) (hb : I64 bd) :
  PureOK prog 5 [.d (intsD l),.d (intsD m),.d (intsD k),i64 at_,i64 bd] (bV true) := by
 obtain ⟨p,t,hfit,hgood,hsp,htl⟩ := fits_smp l m hl hm 127 12 6000 (by omega) (by omega) (by omega) (by omega)
 have hlv := lives7_ok
 have hpat := pattern_ok k 3 6 hk (by omega) (by omega)
 have hq0 := pat_smp k 3 6 hk (by omega) (by omega)
 have hqc := pat_nocap k 6
 have har := around_ok at_ ((t.length : Int) + 1) (by omega) ha
 have hrr := around_range at_ ((t.length : Int) + 1) (by omega) ha
 have har2 := around_ok bd 4 (by omega) hb
 have hrr2 := around_range bd 4 (by omega) hb
 have har3 := around_ok (bd.tdiv 4) 4 (by omega) (tquoI 4 (by omega) hb)
 have hrr3 := around_range (bd.tdiv 4) 4 (by omega) (tquoI 4 (by omega) hb)
 have wt : IntKind.i64.wrap ((t.length : Int) + 1)=(t.length : Int) + 1 := w64 _ (by omega)
 have wq : IntKind.i64.wrap (bd.tdiv 4)=bd.tdiv 4 := w64 _ (tquoI 4 (by omega) hb)
 generalize around at_ ((t.length : Int) + 1)=aa at *
 generalize around bd 4=n at *
 generalize around (bd.tdiv 4) 4=j at *
 generalize patOf k 3 6=q at *
 have hsq : SmP ⟨q.re,p.caps,false⟩ := ⟨hq0.ev,hq0.size,hq0.depth,rfl,whole_mono (by rw [hqc]; exact hsp.c0) hq0.whole,hsp.c0,hsp.c1⟩
 obtain ⟨A,B,C,D',s,f,sb,sc,g,sd,hf,hD,hAl,hAc,hBc,k1,k2,k3,k4⟩ := parts_data hsp hsq rfl htl hgood (x := aa) (by omega) (by omega)
 obtain ⟨mx,hmx,hmxv⟩ : ∃ mx : Int,[[D.sc (.int .i64 (-1))],[D.sc (.int .i64 (n + 1))],[D.sc (.int .i64 (n + 3))],[D.sc (.int .i64 (max n 1))]][j.toNat]?=some [D.sc (.int .i64 mx)]∧(mx=-1 ∨ (1≤mx∧n≤mx∧mx≤9)) := by
  have hj : j=0 ∨ j=1 ∨ j=2 ∨ j=3 := by omega
  rcases hj with rfl | rfl | rfl | rfl
  ·exact ⟨-1,rfl,.inl rfl⟩
  ·exact ⟨n + 1,rfl,.inr (by omega)⟩
  ·exact ⟨n + 3,rfl,.inr (by omega)⟩
  ·exact ⟨max n 1,rfl,.inr (by omega)⟩
 obtain ⟨hv7,_,_,_⟩ := allE_valid (hgood aa (by omega) (by omega))
 obtain ⟨_,_,hsym,_,_⟩ := valid7_spec hv7
 rw [hsp.runes] at hsym
 obtain ⟨U,su,sv,hUl,hUc,u1,u2⟩ := ab_data htl hsym (x := aa) (n := n) (mx := mx) (by omega) (by omega) (by omega) (by omega) hmxv
 have hpr := hsp.runes
 have hqr := hq0.runes
 clear hv7 hsym hgood hsp hsq hq0
 simp only [patV_C,patC_eq,List.map_cons,List.map_nil,i64,iD,bD,bV,intsD,bothP,atomQ,abP,abRep,abRe,hpr,hqr,mk_op,mk_set,mk_kids,mk_mn,mk_mx,mk_mode,mk_n,mk_neg,spanC,Re.cells_eq p.re,Re.cells_eq q.re,Re.cells_eq (Re.mk 1 [(97,98)] [] 0 0 0 0 false)] at hfit hpat k1 k2 k3 k4 u1 u2 har har2 har3
 refine fn_ok func5 rfl ntmps5 results5 rfl 0 472303205407 (by simp) (by simp) ?_
 simp only [zX,Nat.reduceShiftRight,Nat.reduceMod,Nat.reduceLT,Nat.reduceMul,Nat.reduceSub,Int.reduceToNat,Int.reduceNeg,Int.reduceLT,Int.reduceLE,Int.reduceEq,Nat.reduceEqDiff,Nat.reduceAdd,Nat.reduceLeDiff,reduceIte,reduceCtorEq,Nat.reduceBEq,i64,bV,iD,bD,Mat.v,intsD,killO,List.length_map,List.set_cons_zero,List.set_cons_succ,List.length_cons,List.length_nil,List.cons_append,List.nil_append,ne_eq,not_true_eq_false,not_false_eq_true,Bool.not_false,Bool.not_true,gt_iff_lt,decide_true]
 refine call_pure hfit rfl rfl ?_
 simp only [zX,Nat.reduceShiftRight,Nat.reduceMod,Nat.reduceLT,Nat.reduceMul,Nat.reduceSub,Int.reduceToNat,Int.reduceNeg,Int.reduceLT,Int.reduceLE,Int.reduceEq,Nat.reduceEqDiff,Nat.reduceAdd,Nat.reduceLeDiff,reduceIte,reduceCtorEq,Nat.reduceBEq,i64,bV,iD,bD,Mat.v,intsD,killO,List.length_map,List.set_cons_zero,List.set_cons_succ,List.length_cons,List.length_nil,List.cons_append,List.nil_append,ne_eq,not_true_eq_false,not_false_eq_true,Bool.not_false,Bool.not_true,gt_iff_lt,decide_true]
 refine call_pure hpat rfl rfl ?_
 simp only [zX,Nat.reduceShiftRight,Nat.reduceMod,Nat.reduceLT,Nat.reduceMul,Nat.reduceSub,Int.reduceToNat,Int.reduceNeg,Int.reduceLT,Int.reduceLE,Int.reduceEq,Nat.reduceEqDiff,Nat.reduceAdd,Nat.reduceLeDiff,reduceIte,reduceCtorEq,Nat.reduceBEq,i64,bV,iD,bD,Mat.v,intsD,killO,List.length_map,List.set_cons_zero,List.set_cons_succ,List.length_cons,List.length_nil,List.cons_append,List.nil_append,ne_eq,not_true_eq_false,not_false_eq_true,Bool.not_false,Bool.not_true,gt_iff_lt,decide_true,wt]
 refine call_pure har rfl rfl ?_
 simp only [zX,Nat.reduceShiftRight,Nat.reduceMod,Nat.reduceLT,Nat.reduceMul,Nat.reduceSub,Int.reduceToNat,Int.reduceNeg,Int.reduceLT,Int.reduceLE,Int.reduceEq,Nat.reduceEqDiff,Nat.reduceAdd,Nat.reduceLeDiff,reduceIte,reduceCtorEq,Nat.reduceBEq,i64,bV,iD,bD,Mat.v,intsD,killO,List.length_map,List.set_cons_zero,List.set_cons_succ,List.length_cons,List.length_nil,List.cons_append,List.nil_append,ne_eq,not_true_eq_false,not_false_eq_true,Bool.not_false,Bool.not_true,gt_iff_lt,decide_true]
 refine call_pure k1 rfl rfl ?_
 simp only [zX,Nat.reduceShiftRight,Nat.reduceMod,Nat.reduceLT,Nat.reduceMul,Nat.reduceSub,Int.reduceToNat,Int.reduceNeg,Int.reduceLT,Int.reduceLE,Int.reduceEq,Nat.reduceEqDiff,Nat.reduceAdd,Nat.reduceLeDiff,reduceIte,reduceCtorEq,Nat.reduceBEq,i64,bV,iD,bD,Mat.v,intsD,killO,List.length_map,List.set_cons_zero,List.set_cons_succ,List.length_cons,List.length_nil,List.cons_append,List.nil_append,ne_eq,not_true_eq_false,not_false_eq_true,Bool.not_false,Bool.not_true,gt_iff_lt,decide_true]
 refine call_pure k2 rfl rfl ?_
 simp only [zX,Nat.reduceShiftRight,Nat.reduceMod,Nat.reduceLT,Nat.reduceMul,Nat.reduceSub,Int.reduceToNat,Int.reduceNeg,Int.reduceLT,Int.reduceLE,Int.reduceEq,Nat.reduceEqDiff,Nat.reduceAdd,Nat.reduceLeDiff,reduceIte,reduceCtorEq,Nat.reduceBEq,i64,bV,iD,bD,Mat.v,intsD,killO,List.length_map,List.set_cons_zero,List.set_cons_succ,List.length_cons,List.length_nil,List.cons_append,List.nil_append,ne_eq,not_true_eq_false,not_false_eq_true,Bool.not_false,Bool.not_true,gt_iff_lt,decide_true]
 refine call_give [] (by rfl) (call_pure k3 rfl rfl ?_)
 simp only [zX,Nat.reduceShiftRight,Nat.reduceMod,Nat.reduceLT,Nat.reduceMul,Nat.reduceSub,Int.reduceToNat,Int.reduceNeg,Int.reduceLT,Int.reduceLE,Int.reduceEq,Nat.reduceEqDiff,Nat.reduceAdd,Nat.reduceLeDiff,reduceIte,reduceCtorEq,Nat.reduceBEq,i64,bV,iD,bD,Mat.v,intsD,killO,List.length_map,List.set_cons_zero,List.set_cons_succ,List.length_cons,List.length_nil,List.cons_append,List.nil_append,ne_eq,not_true_eq_false,not_false_eq_true,Bool.not_false,Bool.not_true,gt_iff_lt,decide_true]
 refine call_give [] (by rfl) (call_pure k4 rfl rfl ?_)
 rcases hf with rfl | ⟨rfl,rfl,rfl,hBl⟩
 ·simp only [zX,Nat.reduceShiftRight,Nat.reduceMod,Nat.reduceLT,Nat.reduceMul,Nat.reduceSub,Int.reduceToNat,Int.reduceNeg,Int.reduceLT,Int.reduceLE,Int.reduceEq,Nat.reduceEqDiff,Nat.reduceAdd,Nat.reduceLeDiff,reduceIte,reduceCtorEq,Nat.reduceBEq,i64,bV,iD,bD,Mat.v,intsD,killO,List.length_map,List.set_cons_zero,List.set_cons_succ,List.length_cons,List.length_nil,List.cons_append,List.nil_append,ne_eq,not_true_eq_false,not_false_eq_true,Bool.not_false,Bool.not_true,gt_iff_lt,decide_true]
  refine call_pure hlv rfl rfl ?_
  simp only [zX,Nat.reduceShiftRight,Nat.reduceMod,Nat.reduceLT,Nat.reduceMul,Nat.reduceSub,Int.reduceToNat,Int.reduceNeg,Int.reduceLT,Int.reduceLE,Int.reduceEq,Nat.reduceEqDiff,Nat.reduceAdd,Nat.reduceLeDiff,reduceIte,reduceCtorEq,Nat.reduceBEq,i64,bV,iD,bD,Mat.v,intsD,killO,List.length_map,List.set_cons_zero,List.set_cons_succ,List.length_cons,List.length_nil,List.cons_append,List.nil_append,ne_eq,not_true_eq_false,not_false_eq_true,Bool.not_false,Bool.not_true,gt_iff_lt,decide_true]
 subst hD
 simp only [zX,Nat.reduceShiftRight,Nat.reduceMod,Nat.reduceLT,Nat.reduceMul,Nat.reduceSub,Int.reduceToNat,Int.reduceNeg,Int.reduceLT,Int.reduceLE,Int.reduceEq,Nat.reduceEqDiff,Nat.reduceAdd,Nat.reduceLeDiff,reduceIte,reduceCtorEq,Nat.reduceBEq,i64,bV,iD,bD,Mat.v,intsD,killO,List.length_map,List.set_cons_zero,List.set_cons_succ,List.length_cons,List.length_nil,List.cons_append,List.nil_append,ne_eq,not_true_eq_false,not_false_eq_true,Bool.not_false,Bool.not_true,gt_iff_lt,decide_true]
 refine ⟨mat3 A,⟨by omega,fun e he=>by cases he⟩,mat3 B,⟨by omega,by omega⟩,?_⟩
 have hEls : List.take (0 + A.length) (List.map (fun x=>List.map V.d x) (List.map matD A)) ++ List.map (fun x=>List.map V.d x) (List.map matD B)=((A ++ B).map matD).map fun c=>c.map V.d := by
  rw [List.take_of_length_le (by simp),List.map_append,List.map_append]
 rw [hEls]
 have hAB : ∀ m ∈ A ++ B,m.c.length≤1000000000 := fun m hm=>(List.mem_append.1 hm).elim (hAc m) (hBc m)
 refine call_give [4] (cargs := [.d (.sl ((A ++ B).map matD)),.d (.sl ((A ++ B).map matD))]) ?_ (call_pure (equals_refl (A ++ B) (by rw [List.length_append]; omega) hAB) rfl rfl ?_)
 ·simp only [frzV.go]
  rw [frz_ownK (live := false) (sz := 3) rfl (by rw [List.drop_zero,List.take_of_length_le (by simp)]) (by simp) (.inr rfl)]
  rfl
 have hsl : ∀ k : Nat,k=min 1 A.length→((A.map matD).drop 0).take k=(A.take 1).map matD := by
  intro k hk
  rw [List.drop_zero,← List.map_take]
  congr 1
  rcases A with _ | ⟨x,A⟩
  ·simp
  ·rw [hk]; simp
 simp only [zX,Nat.reduceShiftRight,Nat.reduceMod,Nat.reduceLT,Nat.reduceMul,Nat.reduceSub,Int.reduceToNat,Int.reduceNeg,Int.reduceLT,Int.reduceLE,Int.reduceEq,Nat.reduceEqDiff,Nat.reduceAdd,Nat.reduceLeDiff,reduceIte,reduceCtorEq,Nat.reduceBEq,i64,bV,iD,bD,Mat.v,intsD,killO,List.length_map,List.set_cons_zero,List.set_cons_succ,List.length_cons,List.length_nil,List.cons_append,List.nil_append,ne_eq,not_true_eq_false,not_false_eq_true,Bool.not_false,Bool.not_true,gt_iff_lt,decide_true]
 refine ⟨⟨by omega,by omega⟩,?_⟩
 rw [show List.take (min 1 (A.length : Int) - 0).toNat (List.map matD A)=(A.take 1).map matD from by rw [← hsl (min 1 (A.length : Int) - 0).toNat (by omega),List.drop_zero]]
 refine call_pure (equals_refl (A.take 1) (by rw [List.length_take]; omega) (fun m hm=>hAc m (List.mem_of_mem_take hm))) rfl rfl ?_
 have wn1 : IntKind.i64.wrap (n + 1)=n + 1 := w64 _ (by omega)
 have wn3 : IntKind.i64.wrap (n + 3)=n + 3 := w64 _ (by omega)
 have hj0 : 0≤j := hrr3.1
 have hj4 : j.toNat < 4 := by omega
 simp only [zX,Nat.reduceShiftRight,Nat.reduceMod,Nat.reduceLT,Nat.reduceMul,Nat.reduceSub,Int.reduceToNat,Int.reduceNeg,Int.reduceLT,Int.reduceLE,Int.reduceEq,Nat.reduceEqDiff,Nat.reduceAdd,Nat.reduceLeDiff,reduceIte,reduceCtorEq,Nat.reduceBEq,i64,bV,iD,bD,Mat.v,intsD,killO,List.length_map,List.set_cons_zero,List.set_cons_succ,List.length_cons,List.length_nil,List.cons_append,List.nil_append,ne_eq,not_true_eq_false,not_false_eq_true,Bool.not_false,Bool.not_true,gt_iff_lt,decide_true,kill1,List.getElem?_cons_zero,List.getElem?_cons_succ]
 refine call_pure har2 rfl rfl ?_
 simp only [zX,Nat.reduceShiftRight,Nat.reduceMod,Nat.reduceLT,Nat.reduceMul,Nat.reduceSub,Int.reduceToNat,Int.reduceNeg,Int.reduceLT,Int.reduceLE,Int.reduceEq,Nat.reduceEqDiff,Nat.reduceAdd,Nat.reduceLeDiff,reduceIte,reduceCtorEq,Nat.reduceBEq,i64,bV,iD,bD,Mat.v,intsD,killO,List.length_map,List.set_cons_zero,List.set_cons_succ,List.length_cons,List.length_nil,List.cons_append,List.nil_append,ne_eq,not_true_eq_false,not_false_eq_true,Bool.not_false,Bool.not_true,gt_iff_lt,decide_true,wn1,wn3,wq]
 refine call_pure har3 rfl rfl ?_
 simp only [zX,Nat.reduceShiftRight,Nat.reduceMod,Nat.reduceLT,Nat.reduceMul,Nat.reduceSub,Int.reduceToNat,Int.reduceNeg,Int.reduceLT,Int.reduceLE,Int.reduceEq,Nat.reduceEqDiff,Nat.reduceAdd,Nat.reduceLeDiff,reduceIte,reduceCtorEq,Nat.reduceBEq,i64,bV,iD,bD,Mat.v,intsD,killO,List.length_map,List.set_cons_zero,List.set_cons_succ,List.length_cons,List.length_nil,List.cons_append,List.nil_append,ne_eq,not_true_eq_false,not_false_eq_true,Bool.not_false,Bool.not_true,gt_iff_lt,decide_true,wn1,wn3,wq,hj0,hj4,hmx]
 refine ⟨by omega,?_⟩
 refine call_give [] (by rfl) (call_pure u1 rfl rfl ?_)
 simp only [zX,Nat.reduceShiftRight,Nat.reduceMod,Nat.reduceLT,Nat.reduceMul,Nat.reduceSub,Int.reduceToNat,Int.reduceNeg,Int.reduceLT,Int.reduceLE,Int.reduceEq,Nat.reduceEqDiff,Nat.reduceAdd,Nat.reduceLeDiff,reduceIte,reduceCtorEq,Nat.reduceBEq,i64,bV,iD,bD,Mat.v,intsD,killO,List.length_map,List.set_cons_zero,List.set_cons_succ,List.length_cons,List.length_nil,List.cons_append,List.nil_append,ne_eq,not_true_eq_false,not_false_eq_true,Bool.not_false,Bool.not_true,gt_iff_lt,decide_true]
 refine call_give [] (by rfl) (call_pure u2 rfl rfl ?_)
 simp only [zX,Nat.reduceShiftRight,Nat.reduceMod,Nat.reduceLT,Nat.reduceMul,Nat.reduceSub,Int.reduceToNat,Int.reduceNeg,Int.reduceLT,Int.reduceLE,Int.reduceEq,Nat.reduceEqDiff,Nat.reduceAdd,Nat.reduceLeDiff,reduceIte,reduceCtorEq,Nat.reduceBEq,i64,bV,iD,bD,Mat.v,intsD,killO,List.length_map,List.set_cons_zero,List.set_cons_succ,List.length_cons,List.length_nil,List.cons_append,List.nil_append,ne_eq,not_true_eq_false,not_false_eq_true,Bool.not_false,Bool.not_true,gt_iff_lt,decide_true,List.length_reverse]
 refine loop_rule (fun n e s=>∃ z : Nat,n=U.length - z∧z≤U.length∧e 32=.d (.sl (U.map matD))∧e 35=.d (.sl (U.reverse.map matD))∧e 38=i64 z∧s=[])
  ⟨_,_,_,Cln.cut (s' := []) 0 (by omega) rfl rfl [32,35,38] (by simp [updE,trimE_app,refsV,i64]),0,rfl,by omega,rfl,rfl,rfl,rfl⟩ ?_
 rintro n' e s ⟨z,rfl,hz,h32,h35,h38,rfl⟩
 rcases Nat.lt_or_ge z U.length with hlt | hge
 ·obtain ⟨x,hx⟩ : ∃ x,U[z]?=some x := ⟨_,List.getElem?_eq_getElem hlt⟩
  have hlt' : (z : Int) < (U.length : Int) := by omega
  have hz0 : (0 : Int)≤(z : Int) := by omega
  have wa : IntKind.i64.wrap ((U.length : Int) - 1)=(U.length : Int) - 1 := w64 _ (by omega)
  have wb : IntKind.i64.wrap ((U.length : Int) - 1 - z)=(U.length : Int) - 1 - z := w64 _ (by omega)
  have hr0 : (0 : Int)≤(U.length : Int) - 1 - z := by omega
  have hrl : ((U.length : Int) - 1 - z).toNat < U.length := by omega
  have hrl' : (U.length : Int) - 1 - z < (U.length : Int) := by omega
  have hrx : U.reverse[((U.length : Int) - 1 - z).toNat]?=some x := by
   rw [List.getElem?_reverse hrl,show U.length - 1 - ((U.length : Int) - 1 - z).toNat=z by omega,hx]
  have heq := semEqual_ok x x (hUc x (List.mem_of_getElem? hx))
  simp only [decide_true,Mat.v,i64,bV] at heq
  simp only [zX,Nat.reduceShiftRight,Nat.reduceMod,Nat.reduceLT,Nat.reduceMul,Nat.reduceSub,Int.reduceToNat,Int.reduceNeg,Int.reduceLT,Int.reduceLE,Int.reduceEq,Nat.reduceEqDiff,Nat.reduceAdd,Nat.reduceLeDiff,reduceIte,reduceCtorEq,Nat.reduceBEq,i64,bV,iD,bD,Mat.v,intsD,killO,List.length_map,List.set_cons_zero,List.set_cons_succ,List.length_cons,List.length_nil,List.cons_append,List.nil_append,ne_eq,not_true_eq_false,not_false_eq_true,Bool.not_false,Bool.not_true,gt_iff_lt,decide_true,h32,h35,h38,hlt',List.length_map,List.length_reverse]
  refine draw_c mix [] [] (by rfl) ?_
  simp only [zX,Nat.reduceShiftRight,Nat.reduceMod,Nat.reduceLT,Nat.reduceMul,Nat.reduceSub,Int.reduceToNat,Int.reduceNeg,Int.reduceLT,Int.reduceLE,Int.reduceEq,Nat.reduceEqDiff,Nat.reduceAdd,Nat.reduceLeDiff,reduceIte,reduceCtorEq,Nat.reduceBEq,i64,bV,iD,bD,Mat.v,intsD,killO,List.length_map,List.set_cons_zero,List.set_cons_succ,List.length_cons,List.length_nil,List.cons_append,List.nil_append,ne_eq,not_true_eq_false,not_false_eq_true,Bool.not_false,Bool.not_true,gt_iff_lt,decide_true,h32,h35,h38,hlt',hlt,hz0,Int.toNat_natCast,hx,matD,wa,wb,hr0,hrl,hrl',hrx,List.length_map,List.length_reverse]
  refine callC_pure heq rfl rfl ?_
  simp only [zX,Nat.reduceShiftRight,Nat.reduceMod,Nat.reduceLT,Nat.reduceMul,Nat.reduceSub,Int.reduceToNat,Int.reduceNeg,Int.reduceLT,Int.reduceLE,Int.reduceEq,Nat.reduceEqDiff,Nat.reduceAdd,Nat.reduceLeDiff,reduceIte,reduceCtorEq,Nat.reduceBEq,i64,bV,iD,bD,Mat.v,intsD,killO,List.length_map,List.set_cons_zero,List.set_cons_succ,List.length_cons,List.length_nil,List.cons_append,List.nil_append,ne_eq,not_true_eq_false,not_false_eq_true,Bool.not_false,Bool.not_true,gt_iff_lt,decide_true,h32,h35,h38]
  refine ⟨U.length - (z + 1),_,_,by omega,Cln.refl,z + 1,rfl,hlt,?_,?_,?_,rfl⟩ <;> (try simp only [zU,Nat.reduceBEq,Nat.reduceShiftRight,Nat.reduceMod,Nat.reduceEqDiff,reduceIte])
  ·exact h32
  ·exact h35
  ·rw [w64 _ (by omega)]; rfl
 ·have hzz : z=U.length := by omega
  subst hzz
  simp only [zX,Nat.reduceShiftRight,Nat.reduceMod,Nat.reduceLT,Nat.reduceMul,Nat.reduceSub,Int.reduceToNat,Int.reduceNeg,Int.reduceLT,Int.reduceLE,Int.reduceEq,Nat.reduceEqDiff,Nat.reduceAdd,Nat.reduceLeDiff,reduceIte,reduceCtorEq,Nat.reduceBEq,i64,bV,iD,bD,Mat.v,intsD,killO,List.length_map,List.set_cons_zero,List.set_cons_succ,List.length_cons,List.length_nil,List.cons_append,List.nil_append,ne_eq,not_true_eq_false,not_false_eq_true,Bool.not_false,Bool.not_true,gt_iff_lt,decide_true,h32,h35,h38,Int.lt_irrefl,List.length_map]
  refine call_pure hlv rfl rfl ?_
  simp only [zX,Nat.reduceShiftRight,Nat.reduceMod,Nat.reduceLT,Nat.reduceMul,Nat.reduceSub,Int.reduceToNat,Int.reduceNeg,Int.reduceLT,Int.reduceLE,Int.reduceEq,Nat.reduceEqDiff,Nat.reduceAdd,Nat.reduceLeDiff,reduceIte,reduceCtorEq,Nat.reduceBEq,i64,bV,iD,bD,Mat.v,intsD,killO,List.length_map,List.set_cons_zero,List.set_cons_succ,List.length_cons,List.length_nil,List.cons_append,List.nil_append,ne_eq,not_true_eq_false,not_false_eq_true,Bool.not_false,Bool.not_true,gt_iff_lt,decide_true]
end Go.Proofs.Ytimnnipoaafdfaa
