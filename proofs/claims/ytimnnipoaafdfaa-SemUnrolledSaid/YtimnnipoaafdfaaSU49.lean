/- A part of the proof (S63 S64). -/
import Derived.Test.YtimnnipoaafdfaaSU39
import Derived.Test.YtimnnipoaafdfaaSU42
import Derived.Test.YtimnnipoaafdfaaSU19
import Derived.Test.YtimnnipoaafdfaaSU48
set_option linter.unusedSimpArgs false
set_option linter.unusedVariables false
set_option maxRecDepth 100000
set_option maxHeartbeats 80000000
namespace Go.Proofs.Ytimnnipoaafdfaa
open Go.VL Go.Proofs.Try
noncomputable def spentAt (p q:Pat) (t:List Int) (F:Int) (i:Nat):Bool:=(searchX p t i (-1) F).2.empty||(searchX q t i (-1) F).2.empty
noncomputable def sameV (p q:Pat) (t:List Int) (F:Int):V:=if (List.range (t.length + 1)).any (spentAt p q t F)=true then .tu [bV false,i64 11] else .tu [bV true,i64 0]
structure RestS (p:Pat) (t:List Int) (F:Int) (m:Smt):Prop where
 p:m.p=p
 t:m.t=t
 f:m.fuel=F
 s:m.spent=false
 k:m.top≤m.stk.length
def liveB (p:Pat):VL.Obj:=⟨0,true,10,[(patC p).map .d]⟩
def samO (p q:Pat) (b1 a1 b2 a2:Nat) (ma mb:Smt):List VL.Obj:=[boxP p,boxP q,sO1 3 4 ma,sO2,sO3 b1 a1 ma,sO1 6 7 mb,sO2,sO3 b2 a2 mb]
theorem samO_ok (p q:Pat) (b1 a1 b2 a2:Nat) (ma mb:Smt):(samO p q b1 a1 b2 a2 ma mb).all (objOk 8)=true:=by
 have h1:=sO_ok (Y:=3) (Z:=4) (n:=8) ma b1 a1 (by decide) (by decide)
 have h2:=sO_ok (Y:=6) (Z:=7) (n:=8) mb b2 a2 (by decide) (by decide)
 simp only[Bool.and_eq_true] at h1 h2
 simp only[samO,List.all_cons,List.all_nil,boxP_ok,h1.1,h1.2.1,h1.2.2,h2.1,h2.2.2,Bool.and_true]
def SamI (p q:Pat) (t:List Int) (i:Nat) (b1 a1 b2 a2:Nat) (fa fb:Smt) (n:Nat) (e:VL.Env) (s:List VL.Obj):Prop :=
 ∃(sm more:Bool) (ma mb:Smt),e 2=.d (intsD t)∧e 11=bV sm∧e 12=.pp 2 0 0 0 b1 a1∧e 13=.pp 5 0 0 0 b2 a2∧e 14=i64 i∧e 15=bV more∧s=samO p q b1 a1 b2 a2 ma mb∧(ma.p=p∧ma.start=i)∧(mb.p=q∧mb.start=i) ∧
  (fa.spent=false→fb.spent=false→sm=true) ∧
  ((more=true∧∃La Lb,n=La.length + 1∧AllS ma La fa∧AllS mb Lb fb∧(fa.spent=false→fb.spent=false→La=Lb))∨(more=false∧n=0∧(∃j,DrainS j ma fa)∧∃j,DrainS j mb fb))
theorem sam_next {p q:Pat} {t:List Int} {i b1 a1 b2 a2:Nat} {fa fb ma mb:Smt} {n N:Nat} {e:VL.Env} {s ext:List VL.Obj} {sm more:Bool} (h2:e 2=.d (intsD t)) (h11:e 11=bV sm) (h12:e 12=.pp 2 0 0 0 b1 a1) (h13:e 13=.pp 5 0 0 0 b2 a2) (h14:e 14=i64 i) (h15:e 15=bV more) (hs:s=samO p q b1 a1 b2 a2 ma mb++ext)
  (ha:ma.p=p∧ma.start=i) (hb:mb.p=q∧mb.start=i) (hsm:fa.spent=false→fb.spent=false→sm=true)
  (hc:(more=true∧∃La Lb,n=La.length + 1∧AllS ma La fa∧AllS mb Lb fb∧(fa.spent=false→fb.spent=false→La=Lb))∨(more=false∧n=0∧(∃j,DrainS j ma fa)∧∃j,DrainS j mb fb)) (hN:n < N):Lnext 0 (SamI p q t i b1 a1 b2 a2 fa fb) N e s :=
 ⟨n,_,_,hN,Cln.cut (s':=samO p q b1 a1 b2 a2 ma mb) 8 (by omega) (by rw[hs]; rfl) (samO_ok p q b1 a1 b2 a2 ma mb) [2,11,12,13,14,15] (by simp [h2,h11,h12,h13,h14,h15,refsV,i64,bV]),sm,more,ma,mb,h2,h11,h12,h13,h14,h15,rfl,ha,hb,hsm,hc⟩
theorem same_run (p q:Pat) (t:List Int) (F:Int) (hfp:p.re.fine=true) (hfq:q.re.fine=true) (hv1:valid7 p t F=0) (hv2:valid7 q t F=0) (hF:F≤10000000) (hcq:q.caps=p.caps)
  (hres:∀i:Int,0≤i→i≤t.length→(searchX p t i (-1) F).2.empty=false→(searchX q t i (-1) F).2.empty=false→(searchX p t i (-1) F).2.res=(searchX q t i (-1) F).2.res) :
  PureOK prog 31 [patV p,patV q,.d (intsD t),i64 F] (sameV p q t F):=by
 obtain⟨g1,g2,g3,g4,g5⟩:=valid7_spec hv1
 obtain⟨_,_,hc0,hc9,_⟩:=validR_spec g1
 have hck:=check_okS [p,q] t F (by simp) (fun r hr=>by
  rcases List.mem_cons.1 hr with rfl | hr
  ·exact hfp
  ·rw[List.mem_singleton.1 hr]; exact hfq) (by omega)
 rw[check_two hv1 hv2] at hck
 have hpc:patC p=p.re.cells++[iD p.caps,bD p.runes]:=rfl
 have hqc:patC q=q.re.cells++[iD q.caps,bD q.runes]:=rfl
 simp only[List.map_cons,List.map_nil,hpc,hqc,Re.cells_eq p.re,Re.cells_eq q.re,List.cons_append,List.nil_append,i64,iD,bD] at hck
 have hnew1:=fun K hk=>call_newS (p:=p) (t:=t) (fuel:=F) (s:=[boxP p,liveB q]) (K:=K) hk
 have hnew2:=fun b1 a1 K hk=>call_newS (p:=q) (t:=t) (fuel:=F) (s:=[boxP p,boxP q,sO1 3 4 (freshS p t F),sO2,sO3 b1 a1 (freshS p t F)]) (K:=K) hk
 refine fn_ok func31 rfl ntmps31 results31 rfl 0 1048383 (by simp) (by simp) ?_
 simp only[zX,Nat.reduceShiftRight,Nat.reduceMod,Nat.reduceLT,Nat.reduceMul,Nat.reduceSub,Int.reduceToNat,Int.reduceNeg,Int.reduceLT,Int.reduceLE,Int.reduceEq,Nat.reduceEqDiff,Nat.reduceAdd,Nat.reduceLeDiff,reduceIte,reduceCtorEq,Nat.reduceBEq,i64,patV,Re.cells_eq p.re,Re.cells_eq q.re,bV,iD,bD,List.map_cons,List.map_nil,List.cons_append,List.nil_append]
 refine call_give [] (by simp [killO,frzV.go,frzV,frzD]; rfl) ?_
 refine call_pure hck rfl rfl ?_
 simp only[zX,Nat.reduceShiftRight,Nat.reduceMod,Nat.reduceLT,Nat.reduceMul,Nat.reduceSub,Int.reduceToNat,Int.reduceNeg,Int.reduceLT,Int.reduceLE,Int.reduceEq,Nat.reduceEqDiff,Nat.reduceAdd,Nat.reduceLeDiff,reduceIte,reduceCtorEq,Nat.reduceBEq,i64,patV,bV,iD,bD,ne_eq,not_true_eq_false,intsD,gt_iff_lt,List.length_map]
 refine call_give [0] (by simp [killO,kill1,frzV.go,frzV,frzD]; rfl) ?_
 simp only[killO,kill1,List.getElem?_cons_zero,List.set_cons_zero]
 have hbo1:boxP p=boxP p:=rfl
 conv at hbo1=>rhs; simp only[boxP,hpc,Re.cells_eq p.re,i64,iD,bD,List.map_cons,List.map_nil,List.cons_append,List.nil_append]
 have hbo2:liveB q=liveB q:=rfl
 conv at hbo2=>rhs; simp only[liveB,hqc,Re.cells_eq q.re,i64,iD,bD,List.map_cons,List.map_nil,List.cons_append,List.nil_append]
 rw[← hbo1,← hbo2]
 clear hbo1 hbo2 hck
 simp only[hpc,Re.cells_eq p.re,i64,iD,bD,intsD,List.map_cons,List.map_nil,List.cons_append,List.nil_append,List.length_cons,List.length_nil,Nat.zero_add,Nat.reduceAdd] at hnew1
 refine hnew1 _ (fun b1 a1=>?_)
 clear hnew1
 have hnew2:=hnew2 b1 a1
 simp only[zX,Nat.reduceShiftRight,Nat.reduceMod,Nat.reduceLT,Nat.reduceMul,Nat.reduceSub,Int.reduceToNat,Int.reduceNeg,Int.reduceLT,Int.reduceLE,Int.reduceEq,Nat.reduceEqDiff,Nat.reduceAdd,Nat.reduceLeDiff,reduceIte,reduceCtorEq,Nat.reduceBEq,i64,patV,bV,iD,bD,List.cons_append,List.nil_append]
 refine call_give [1] (by simp [killO,kill1,frzV.go,frzV,frzD,liveB,hqc,Re.cells_eq q.re]; rfl) ?_
 simp only[killO,kill1,List.getElem?_cons_zero,List.getElem?_cons_succ,List.set_cons_zero,List.set_cons_succ]
 have hlq:({ liveB q with live:=false }:VL.Obj)=boxP q:=rfl
 rw[hlq]
 simp only[hqc,Re.cells_eq q.re,i64,iD,bD,intsD,List.map_cons,List.map_nil,List.cons_append,List.nil_append,List.length_cons,List.length_nil,Nat.zero_add,Nat.reduceAdd] at hnew2
 refine hnew2 _ (fun b2 a2=>?_)
 clear hnew2
 simp only[zX,Nat.reduceShiftRight,Nat.reduceMod,Nat.reduceLT,Nat.reduceMul,Nat.reduceSub,Int.reduceToNat,Int.reduceNeg,Int.reduceLT,Int.reduceLE,Int.reduceEq,Nat.reduceEqDiff,Nat.reduceAdd,Nat.reduceLeDiff,reduceIte,reduceCtorEq,Nat.reduceBEq,i64,patV,bV,iD,bD,List.cons_append,List.nil_append]
 refine loop_rule (fun n e s=>∃(i:Nat) (ma mb:Smt),n=t.length + 1 - i∧i≤t.length + 1∧e 2=.d (intsD t)∧e 11=bV true∧e 12=.pp 2 0 0 0 b1 a1∧e 13=.pp 5 0 0 0 b2 a2∧e 14=i64 i∧s=samO p q b1 a1 b2 a2 ma mb∧RestS p t F ma∧RestS q t F mb∧(List.range i).any (spentAt p q t F)=false)
  ⟨_,_,_,Cln.refl,0,freshS p t F,freshS q t F,rfl,by omega,rfl,rfl,rfl,rfl,rfl,rfl,⟨rfl,rfl,rfl,rfl,Nat.le_refl _⟩,⟨rfl,rfl,rfl,rfl,Nat.le_refl _⟩,rfl⟩ ?_
 rintro n e s ⟨i,ma,mb,rfl,hi,h2,h11,h12,h13,h14,rfl,hra,hrb,hany⟩
 by_cases hle:i≤t.length
 case neg =>
  have hle':¬((i:Int)≤t.length):=by omega
  have hi1:t.length + 1=i:=by omega
  unfold sameV
  rw[hi1,hany,if_neg Bool.false_ne_true]
  simp only[zX,Nat.reduceShiftRight,Nat.reduceMod,Nat.reduceLT,Nat.reduceMul,Nat.reduceSub,Int.reduceToNat,Int.reduceNeg,Int.reduceLT,Int.reduceLE,Int.reduceEq,Nat.reduceEqDiff,Nat.reduceAdd,Nat.reduceLeDiff,reduceIte,reduceCtorEq,Nat.reduceBEq,i64,bV,iD,bD,samO,intsD,h2,h11,h12,h13,h14,hle',List.length_map]
 have hle':(i:Int)≤t.length:=by omega
 obtain⟨La,fa,hA,hAf,hAk,hAs,hAr⟩:=pos_all (i:=i) hv1 (by omega) hle' (m:={ ma with steps:=0 }) hra.p hra.t hra.f rfl hra.s hF
 obtain⟨Lb,fb,hB,hBf,hBk,hBs,hBr⟩:=pos_all (i:=i) hv2 (by omega) hle' (m:={ mb with steps:=0 }) hrb.p hrb.t hrb.f rfl hrb.s hF
 have hLL:fa.spent=false→fb.spent=false→La=Lb:=fun x y=>by
  rw[hAs] at x
  rw[hBs] at y
  rw[(hAr x).1,(hBr y).1,hres i (by omega) hle' x y]
 unfold samO sO1
 simp only[zX,Nat.reduceShiftRight,Nat.reduceMod,Nat.reduceLT,Nat.reduceMul,Nat.reduceSub,Int.reduceToNat,Int.reduceNeg,Int.reduceLT,Int.reduceLE,Int.reduceEq,Nat.reduceEqDiff,Nat.reduceAdd,Nat.reduceLeDiff,reduceIte,reduceCtorEq,Nat.reduceBEq,i64,bV,iD,bD,intsD,h2,h11,h12,h13,h14,hle',List.length_map]
 refine call_sx (X:=2) (Y:=3) (Z:=4) (begin_okS 0 b1 a1 { ma with steps:=0 } i hra.k) (by decide) rfl rfl rfl rfl rfl rfl ?_
 simp only[List.set_cons_zero,List.set_cons_succ]
 simp only[zX,Nat.reduceShiftRight,Nat.reduceMod,Nat.reduceLT,Nat.reduceMul,Nat.reduceSub,Int.reduceToNat,Int.reduceNeg,Int.reduceLT,Int.reduceLE,Int.reduceEq,Nat.reduceEqDiff,Nat.reduceAdd,Nat.reduceLeDiff,reduceIte,reduceCtorEq,Nat.reduceBEq,i64,bV,iD,bD,intsD,h2,h11,h12,h13,h14,hle',List.length_map]
 refine call_sx (X:=5) (Y:=6) (Z:=7) (begin_okS 0 b2 a2 { mb with steps:=0 } i hrb.k) (by decide) rfl rfl rfl rfl rfl rfl ?_
 simp only[List.set_cons_zero,List.set_cons_succ]
 simp only[zX,Nat.reduceShiftRight,Nat.reduceMod,Nat.reduceLT,Nat.reduceMul,Nat.reduceSub,Int.reduceToNat,Int.reduceNeg,Int.reduceLT,Int.reduceLE,Int.reduceEq,Nat.reduceEqDiff,Nat.reduceAdd,Nat.reduceLeDiff,reduceIte,reduceCtorEq,Nat.reduceBEq,i64,bV,iD,bD,intsD,h2,h11,h12,h13,h14,hle',List.length_map]
 refine loop_rule (SamI p q t i b1 a1 b2 a2 fa fb)
  ⟨La.length + 1,_,_,Cln.refl,true,true,Smt.begin { ma with steps:=0 } i,Smt.begin { mb with steps:=0 } i,?_,?_,?_,?_,?_,rfl,rfl,⟨hra.p,rfl⟩,⟨hrb.p,rfl⟩,fun _ _=>rfl,.inl ⟨rfl,La,Lb,rfl,hA,hB,hLL⟩⟩ ?_ <;> (try simp only[zU,Nat.reduceBEq,Nat.reduceShiftRight,Nat.reduceMod,Nat.reduceEqDiff,reduceIte])
 ·exact h2
 ·exact h11
 ·exact h12
 ·exact h13
 ·exact h14
 rintro n e s ⟨sm,more,ma,mb,h2,h11,h12,h13,h14,h15,rfl,⟨hma,hmas⟩,⟨hmb,hmbs⟩,hsm,hcase⟩
 rcases hcase with ⟨rfl,La,Lb,rfl,hA,hB,hLL⟩ | ⟨rfl,rfl,⟨ja,hDa⟩,⟨jb,hDb⟩⟩
 ·have hft:(false == true)=false:=rfl
  have htf:(true == false)=false:=rfl
  have hoa:=hA.over
  have hob:=hB.over
  have hA':=hA
  have hB':=hB
  unfold AllS at hA' hB'
  generalize hNa:La.length + 1=Na at hA'
  generalize hNb:Lb.length + 1=Nb at hB'
  cases hA' with
  | full=>omega
  | stop hsa =>
   cases hB' with
   | full=>omega
   | stop hsb =>
    have hfa:=sev_fr hsa
    have hxa:=next_no 0 b1 a1 (sev_wp _ _ _ _ _ _ hsa 0 b1 a1)
    have hfb:=sev_fr hsb
    have hxb:=next_no 0 b2 a2 (sev_wp _ _ _ _ _ _ hsb 0 b2 a2)
    simp only[zX,Nat.reduceShiftRight,Nat.reduceMod,Nat.reduceLT,Nat.reduceMul,Nat.reduceSub,Int.reduceToNat,Int.reduceNeg,Int.reduceLT,Int.reduceLE,Int.reduceEq,Nat.reduceEqDiff,Nat.reduceAdd,Nat.reduceLeDiff,reduceIte,reduceCtorEq,Nat.reduceBEq,i64,bV,iD,bD,samO,intsD,h2,h11,h12,h13,h14,h15,Bool.not_true,Bool.not_false,beq_self_eq_true,hft,htf,Bool.false_eq_true,List.length_map]
    refine call_sx (X:=2) (Y:=3) (Z:=4) (r':=.tu [.ag [i64 0,i64 0,.d (.sl [])],bV false]) hxa (by decide) rfl rfl rfl rfl rfl rfl ?_
    simp only[List.set_cons_zero,List.set_cons_succ]
    simp only[zX,Nat.reduceShiftRight,Nat.reduceMod,Nat.reduceLT,Nat.reduceMul,Nat.reduceSub,Int.reduceToNat,Int.reduceNeg,Int.reduceLT,Int.reduceLE,Int.reduceEq,Nat.reduceEqDiff,Nat.reduceAdd,Nat.reduceLeDiff,reduceIte,reduceCtorEq,Nat.reduceBEq,i64,bV,iD,bD,samO,intsD,h2,h11,h12,h13,h14,h15,Bool.not_true,Bool.not_false,beq_self_eq_true,hft,htf,Bool.false_eq_true,List.length_map]
    refine call_sx (X:=5) (Y:=6) (Z:=7) (r':=.tu [.ag [i64 0,i64 0,.d (.sl [])],bV false]) hxb (by decide) rfl rfl rfl rfl rfl rfl ?_
    simp only[List.set_cons_zero,List.set_cons_succ]
    simp only[zX,Nat.reduceShiftRight,Nat.reduceMod,Nat.reduceLT,Nat.reduceMul,Nat.reduceSub,Int.reduceToNat,Int.reduceNeg,Int.reduceLT,Int.reduceLE,Int.reduceEq,Nat.reduceEqDiff,Nat.reduceAdd,Nat.reduceLeDiff,reduceIte,reduceCtorEq,Nat.reduceBEq,i64,bV,iD,bD,samO,intsD,h2,h11,h12,h13,h14,h15,Bool.not_true,Bool.not_false,beq_self_eq_true,hft,htf,Bool.false_eq_true,List.length_map]
    refine sam_next (sm:=sm) (more:=false) (ma:=fa) (mb:=fb) (n:=0) ?_ ?_ ?_ ?_ ?_ ?_ rfl ⟨hfa.p.trans hma,hfa.start.trans hmas⟩ ⟨hfb.p.trans hmb,hfb.start.trans hmbs⟩ hsm (.inr ⟨rfl,rfl,⟨_,hoa⟩,⟨_,hob⟩⟩) (by first | omega | (have:=hNa; simp only[List.length_cons,List.length_nil] at this ⊢; omega)) <;> (try simp only[zU,Nat.reduceBEq,Nat.reduceShiftRight,Nat.reduceMod,Nat.reduceEqDiff,reduceIte])
    ·exact h2
    ·first | exact h11 | rfl
    ·exact h12
    ·exact h13
    ·exact h14
    ·rfl
   | @more _ _ _ mb2 _ rb cb Lb2 hsb hcb hlb hB2 =>
    have hfa:=sev_fr hsa
    have hxa:=next_no 0 b1 a1 (sev_wp _ _ _ _ _ _ hsa 0 b1 a1)
    have hfb:=sev_fr hsb
    have hxb:=next_yes 0 b2 a2 (sev_wp _ _ _ _ _ _ hsb 0 b2 a2) hcb hlb (by rw[hfb.p,hmb,hcq]; exact hc0) (by rw[hfb.p,hmb,hcq]; exact hc9)
    rw[hfb.p,hmb,hcq,hfb.start,hmbs] at hxb
    simp only[zX,Nat.reduceShiftRight,Nat.reduceMod,Nat.reduceLT,Nat.reduceMul,Nat.reduceSub,Int.reduceToNat,Int.reduceNeg,Int.reduceLT,Int.reduceLE,Int.reduceEq,Nat.reduceEqDiff,Nat.reduceAdd,Nat.reduceLeDiff,reduceIte,reduceCtorEq,Nat.reduceBEq,i64,bV,iD,bD,samO,intsD,h2,h11,h12,h13,h14,h15,Bool.not_true,Bool.not_false,beq_self_eq_true,hft,htf,Bool.false_eq_true,List.length_map]
    refine call_sx (X:=2) (Y:=3) (Z:=4) (r':=.tu [.ag [i64 0,i64 0,.d (.sl [])],bV false]) hxa (by decide) rfl rfl rfl rfl rfl rfl ?_
    simp only[List.set_cons_zero,List.set_cons_succ]
    simp only[zX,Nat.reduceShiftRight,Nat.reduceMod,Nat.reduceLT,Nat.reduceMul,Nat.reduceSub,Int.reduceToNat,Int.reduceNeg,Int.reduceLT,Int.reduceLE,Int.reduceEq,Nat.reduceEqDiff,Nat.reduceAdd,Nat.reduceLeDiff,reduceIte,reduceCtorEq,Nat.reduceBEq,i64,bV,iD,bD,samO,intsD,h2,h11,h12,h13,h14,h15,Bool.not_true,Bool.not_false,beq_self_eq_true,hft,htf,Bool.false_eq_true,List.length_map]
    refine call_sx (X:=5) (Y:=6) (Z:=7) (r':=.tu [.ag [i64 i,i64 rb.at_,.d (capD (cb.take p.caps.toNat))],bV true]) hxb (by decide) rfl rfl rfl rfl rfl rfl ?_
    simp only[List.set_cons_zero,List.set_cons_succ]
    simp only[zX,Nat.reduceShiftRight,Nat.reduceMod,Nat.reduceLT,Nat.reduceMul,Nat.reduceSub,Int.reduceToNat,Int.reduceNeg,Int.reduceLT,Int.reduceLE,Int.reduceEq,Nat.reduceEqDiff,Nat.reduceAdd,Nat.reduceLeDiff,reduceIte,reduceCtorEq,Nat.reduceBEq,i64,bV,iD,bD,samO,intsD,h2,h11,h12,h13,h14,h15,Bool.not_true,Bool.not_false,beq_self_eq_true,hft,htf,Bool.false_eq_true,List.length_map]
    refine sam_next (sm:=false) (more:=false) (ma:=fa) (mb:=mb2) (n:=0) ?_ ?_ ?_ ?_ ?_ ?_ rfl ⟨hfa.p.trans hma,hfa.start.trans hmas⟩ ⟨hfb.p.trans hmb,hfb.start.trans hmbs⟩ (fun x y=>by have:=hLL x y; cases this) (.inr ⟨rfl,rfl,⟨_,hoa⟩,⟨_,nexts_drain hB2 (by first | omega | (simp only[List.length_cons] at hNb; omega))⟩⟩) (by first | omega | (have:=hNa; simp only[List.length_cons,List.length_nil] at this ⊢; omega)) <;> (try simp only[zU,Nat.reduceBEq,Nat.reduceShiftRight,Nat.reduceMod,Nat.reduceEqDiff,reduceIte])
    ·exact h2
    ·first | exact h11 | rfl
    ·exact h12
    ·exact h13
    ·exact h14
    ·rfl
  | @more _ _ _ ma2 _ ra ca La2 hsa hca hla hA2 =>
   cases hB' with
   | full=>omega
   | stop hsb =>
    have hfa:=sev_fr hsa
    have hxa:=next_yes 0 b1 a1 (sev_wp _ _ _ _ _ _ hsa 0 b1 a1) hca hla (by rw[hfa.p,hma]; exact hc0) (by rw[hfa.p,hma]; exact hc9)
    rw[hfa.p,hma,hfa.start,hmas] at hxa
    have hfb:=sev_fr hsb
    have hxb:=next_no 0 b2 a2 (sev_wp _ _ _ _ _ _ hsb 0 b2 a2)
    simp only[zX,Nat.reduceShiftRight,Nat.reduceMod,Nat.reduceLT,Nat.reduceMul,Nat.reduceSub,Int.reduceToNat,Int.reduceNeg,Int.reduceLT,Int.reduceLE,Int.reduceEq,Nat.reduceEqDiff,Nat.reduceAdd,Nat.reduceLeDiff,reduceIte,reduceCtorEq,Nat.reduceBEq,i64,bV,iD,bD,samO,intsD,h2,h11,h12,h13,h14,h15,Bool.not_true,Bool.not_false,beq_self_eq_true,hft,htf,Bool.false_eq_true,List.length_map]
    refine call_sx (X:=2) (Y:=3) (Z:=4) (r':=.tu [.ag [i64 i,i64 ra.at_,.d (capD (ca.take p.caps.toNat))],bV true]) hxa (by decide) rfl rfl rfl rfl rfl rfl ?_
    simp only[List.set_cons_zero,List.set_cons_succ]
    simp only[zX,Nat.reduceShiftRight,Nat.reduceMod,Nat.reduceLT,Nat.reduceMul,Nat.reduceSub,Int.reduceToNat,Int.reduceNeg,Int.reduceLT,Int.reduceLE,Int.reduceEq,Nat.reduceEqDiff,Nat.reduceAdd,Nat.reduceLeDiff,reduceIte,reduceCtorEq,Nat.reduceBEq,i64,bV,iD,bD,samO,intsD,h2,h11,h12,h13,h14,h15,Bool.not_true,Bool.not_false,beq_self_eq_true,hft,htf,Bool.false_eq_true,List.length_map]
    refine call_sx (X:=5) (Y:=6) (Z:=7) (r':=.tu [.ag [i64 0,i64 0,.d (.sl [])],bV false]) hxb (by decide) rfl rfl rfl rfl rfl rfl ?_
    simp only[List.set_cons_zero,List.set_cons_succ]
    simp only[zX,Nat.reduceShiftRight,Nat.reduceMod,Nat.reduceLT,Nat.reduceMul,Nat.reduceSub,Int.reduceToNat,Int.reduceNeg,Int.reduceLT,Int.reduceLE,Int.reduceEq,Nat.reduceEqDiff,Nat.reduceAdd,Nat.reduceLeDiff,reduceIte,reduceCtorEq,Nat.reduceBEq,i64,bV,iD,bD,samO,intsD,h2,h11,h12,h13,h14,h15,Bool.not_true,Bool.not_false,beq_self_eq_true,hft,htf,Bool.false_eq_true,List.length_map]
    refine sam_next (sm:=false) (more:=false) (ma:=ma2) (mb:=fb) (n:=0) ?_ ?_ ?_ ?_ ?_ ?_ rfl ⟨hfa.p.trans hma,hfa.start.trans hmas⟩ ⟨hfb.p.trans hmb,hfb.start.trans hmbs⟩ (fun x y=>by have:=hLL x y; cases this) (.inr ⟨rfl,rfl,⟨_,nexts_drain hA2 (by first | omega | (simp at hNa; omega))⟩,⟨_,hob⟩⟩) (by first | omega | (have:=hNa; simp only[List.length_cons,List.length_nil] at this ⊢; omega)) <;> (try simp only[zU,Nat.reduceBEq,Nat.reduceShiftRight,Nat.reduceMod,Nat.reduceEqDiff,reduceIte])
    ·exact h2
    ·first | exact h11 | rfl
    ·exact h12
    ·exact h13
    ·exact h14
    ·rfl
   | @more _ _ _ mb2 _ rb cb Lb2 hsb hcb hlb hB2 =>
    have hfa:=sev_fr hsa
    have hxa:=next_yes 0 b1 a1 (sev_wp _ _ _ _ _ _ hsa 0 b1 a1) hca hla (by rw[hfa.p,hma]; exact hc0) (by rw[hfa.p,hma]; exact hc9)
    rw[hfa.p,hma,hfa.start,hmas] at hxa
    have hfb:=sev_fr hsb
    have hxb:=next_yes 0 b2 a2 (sev_wp _ _ _ _ _ _ hsb 0 b2 a2) hcb hlb (by rw[hfb.p,hmb,hcq]; exact hc0) (by rw[hfb.p,hmb,hcq]; exact hc9)
    rw[hfb.p,hmb,hcq,hfb.start,hmbs] at hxb
    have heq:=semEqual_ok ⟨i,ra.at_,ca.take p.caps.toNat⟩ ⟨i,rb.at_,cb.take p.caps.toNat⟩ (by show (ca.take _).length≤_; rw[List.length_take]; omega)
    have hA3:AllS ma2 La2 fa:=nexts_cut hA2 (by first | omega | (simp at hNa; omega))
    have hB3:AllS mb2 Lb2 fb:=nexts_cut hB2 (by first | omega | (simp at hNb; omega))
    cases hd:decide ((⟨i,ra.at_,ca.take p.caps.toNat⟩:Mat)=⟨i,rb.at_,cb.take p.caps.toNat⟩) with
    | true =>
     rw[hd] at heq
     simp only[Mat.v,i64,bV,iD,bD] at heq
     simp only[zX,Nat.reduceShiftRight,Nat.reduceMod,Nat.reduceLT,Nat.reduceMul,Nat.reduceSub,Int.reduceToNat,Int.reduceNeg,Int.reduceLT,Int.reduceLE,Int.reduceEq,Nat.reduceEqDiff,Nat.reduceAdd,Nat.reduceLeDiff,reduceIte,reduceCtorEq,Nat.reduceBEq,i64,bV,iD,bD,samO,intsD,h2,h11,h12,h13,h14,h15,Bool.not_true,Bool.not_false,beq_self_eq_true,hft,htf,Bool.false_eq_true,List.length_map]
     refine call_sx (X:=2) (Y:=3) (Z:=4) (r':=.tu [.ag [i64 i,i64 ra.at_,.d (capD (ca.take p.caps.toNat))],bV true]) hxa (by decide) rfl rfl rfl rfl rfl rfl ?_
     simp only[List.set_cons_zero,List.set_cons_succ]
     simp only[zX,Nat.reduceShiftRight,Nat.reduceMod,Nat.reduceLT,Nat.reduceMul,Nat.reduceSub,Int.reduceToNat,Int.reduceNeg,Int.reduceLT,Int.reduceLE,Int.reduceEq,Nat.reduceEqDiff,Nat.reduceAdd,Nat.reduceLeDiff,reduceIte,reduceCtorEq,Nat.reduceBEq,i64,bV,iD,bD,samO,intsD,h2,h11,h12,h13,h14,h15,Bool.not_true,Bool.not_false,beq_self_eq_true,hft,htf,Bool.false_eq_true,List.length_map]
     refine call_sx (X:=5) (Y:=6) (Z:=7) (r':=.tu [.ag [i64 i,i64 rb.at_,.d (capD (cb.take p.caps.toNat))],bV true]) hxb (by decide) rfl rfl rfl rfl rfl rfl ?_
     simp only[List.set_cons_zero,List.set_cons_succ]
     simp only[zX,Nat.reduceShiftRight,Nat.reduceMod,Nat.reduceLT,Nat.reduceMul,Nat.reduceSub,Int.reduceToNat,Int.reduceNeg,Int.reduceLT,Int.reduceLE,Int.reduceEq,Nat.reduceEqDiff,Nat.reduceAdd,Nat.reduceLeDiff,reduceIte,reduceCtorEq,Nat.reduceBEq,i64,bV,iD,bD,samO,intsD,h2,h11,h12,h13,h14,h15,Bool.not_true,Bool.not_false,beq_self_eq_true,hft,htf,Bool.false_eq_true,List.length_map]
     refine call_pure heq rfl rfl ?_
     simp only[zX,Nat.reduceShiftRight,Nat.reduceMod,Nat.reduceLT,Nat.reduceMul,Nat.reduceSub,Int.reduceToNat,Int.reduceNeg,Int.reduceLT,Int.reduceLE,Int.reduceEq,Nat.reduceEqDiff,Nat.reduceAdd,Nat.reduceLeDiff,reduceIte,reduceCtorEq,Nat.reduceBEq,i64,bV,iD,bD,samO,intsD,h2,h11,h12,h13,h14,h15,Bool.not_true,Bool.not_false,beq_self_eq_true,hft,htf,Bool.false_eq_true,List.length_map]
     refine sam_next (sm:=sm) (more:=true) (ma:=ma2) (mb:=mb2) (n:=La2.length + 1) ?_ ?_ ?_ ?_ ?_ ?_ rfl ⟨hfa.p.trans hma,hfa.start.trans hmas⟩ ⟨hfb.p.trans hmb,hfb.start.trans hmbs⟩ hsm (.inl ⟨rfl,La2,Lb2,rfl,hA3,hB3,fun x y=>(List.cons.inj (hLL x y)).2⟩) (by first | omega | (have:=hNa; simp only[List.length_cons,List.length_nil] at this ⊢; omega)) <;> (try simp only[zU,Nat.reduceBEq,Nat.reduceShiftRight,Nat.reduceMod,Nat.reduceEqDiff,reduceIte])
     ·exact h2
     ·first | exact h11 | rfl
     ·exact h12
     ·exact h13
     ·exact h14
     ·rfl
    | false =>
     rw[hd] at heq
     simp only[Mat.v,i64,bV,iD,bD] at heq
     simp only[zX,Nat.reduceShiftRight,Nat.reduceMod,Nat.reduceLT,Nat.reduceMul,Nat.reduceSub,Int.reduceToNat,Int.reduceNeg,Int.reduceLT,Int.reduceLE,Int.reduceEq,Nat.reduceEqDiff,Nat.reduceAdd,Nat.reduceLeDiff,reduceIte,reduceCtorEq,Nat.reduceBEq,i64,bV,iD,bD,samO,intsD,h2,h11,h12,h13,h14,h15,Bool.not_true,Bool.not_false,beq_self_eq_true,hft,htf,Bool.false_eq_true,List.length_map]
     refine call_sx (X:=2) (Y:=3) (Z:=4) (r':=.tu [.ag [i64 i,i64 ra.at_,.d (capD (ca.take p.caps.toNat))],bV true]) hxa (by decide) rfl rfl rfl rfl rfl rfl ?_
     simp only[List.set_cons_zero,List.set_cons_succ]
     simp only[zX,Nat.reduceShiftRight,Nat.reduceMod,Nat.reduceLT,Nat.reduceMul,Nat.reduceSub,Int.reduceToNat,Int.reduceNeg,Int.reduceLT,Int.reduceLE,Int.reduceEq,Nat.reduceEqDiff,Nat.reduceAdd,Nat.reduceLeDiff,reduceIte,reduceCtorEq,Nat.reduceBEq,i64,bV,iD,bD,samO,intsD,h2,h11,h12,h13,h14,h15,Bool.not_true,Bool.not_false,beq_self_eq_true,hft,htf,Bool.false_eq_true,List.length_map]
     refine call_sx (X:=5) (Y:=6) (Z:=7) (r':=.tu [.ag [i64 i,i64 rb.at_,.d (capD (cb.take p.caps.toNat))],bV true]) hxb (by decide) rfl rfl rfl rfl rfl rfl ?_
     simp only[List.set_cons_zero,List.set_cons_succ]
     simp only[zX,Nat.reduceShiftRight,Nat.reduceMod,Nat.reduceLT,Nat.reduceMul,Nat.reduceSub,Int.reduceToNat,Int.reduceNeg,Int.reduceLT,Int.reduceLE,Int.reduceEq,Nat.reduceEqDiff,Nat.reduceAdd,Nat.reduceLeDiff,reduceIte,reduceCtorEq,Nat.reduceBEq,i64,bV,iD,bD,samO,intsD,h2,h11,h12,h13,h14,h15,Bool.not_true,Bool.not_false,beq_self_eq_true,hft,htf,Bool.false_eq_true,List.length_map]
     refine call_pure heq rfl rfl ?_
     simp only[zX,Nat.reduceShiftRight,Nat.reduceMod,Nat.reduceLT,Nat.reduceMul,Nat.reduceSub,Int.reduceToNat,Int.reduceNeg,Int.reduceLT,Int.reduceLE,Int.reduceEq,Nat.reduceEqDiff,Nat.reduceAdd,Nat.reduceLeDiff,reduceIte,reduceCtorEq,Nat.reduceBEq,i64,bV,iD,bD,samO,intsD,h2,h11,h12,h13,h14,h15,Bool.not_true,Bool.not_false,beq_self_eq_true,hft,htf,Bool.false_eq_true,List.length_map]
     have hno:fa.spent=false→fb.spent=false→False:=fun x y=>by
      have h:=(List.cons.inj (hLL x y)).1
      obtain⟨e1,e2⟩:=Prod.mk.inj h
      rw[e1,e2] at hd
      simp at hd
     refine sam_next (sm:=false) (more:=true) (ma:=ma2) (mb:=mb2) (n:=La2.length + 1) ?_ ?_ ?_ ?_ ?_ ?_ rfl ⟨hfa.p.trans hma,hfa.start.trans hmas⟩ ⟨hfb.p.trans hmb,hfb.start.trans hmbs⟩ (fun x y=>(hno x y).elim) (.inl ⟨rfl,La2,Lb2,rfl,hA3,hB3,fun x y=>(hno x y).elim⟩) (by first | omega | (have:=hNa; simp only[List.length_cons,List.length_nil] at this ⊢; omega)) <;> (try simp only[zU,Nat.reduceBEq,Nat.reduceShiftRight,Nat.reduceMod,Nat.reduceEqDiff,reduceIte])
     ·exact h2
     ·first | exact h11 | rfl
     ·exact h12
     ·exact h13
     ·exact h14
     ·rfl
 ·simp only[zX,Nat.reduceShiftRight,Nat.reduceMod,Nat.reduceLT,Nat.reduceMul,Nat.reduceSub,Int.reduceToNat,Int.reduceNeg,Int.reduceLT,Int.reduceLE,Int.reduceEq,Nat.reduceEqDiff,Nat.reduceAdd,Nat.reduceLeDiff,reduceIte,reduceCtorEq,Nat.reduceBEq,i64,bV,iD,bD,samO,intsD,h2,h11,h12,h13,h14,h15,List.length_map]
  have hda:=drain_okS 0 b1 a1 hDa
  have hdb:=drain_okS 0 b2 a2 hDb
  refine call_sx (X:=2) (Y:=3) (Z:=4) (r':=.tu []) hda (by decide) rfl rfl rfl rfl rfl rfl ?_
  simp only[List.set_cons_zero,List.set_cons_succ]
  simp only[zX,Nat.reduceShiftRight,Nat.reduceMod,Nat.reduceLT,Nat.reduceMul,Nat.reduceSub,Int.reduceToNat,Int.reduceNeg,Int.reduceLT,Int.reduceLE,Int.reduceEq,Nat.reduceEqDiff,Nat.reduceAdd,Nat.reduceLeDiff,reduceIte,reduceCtorEq,Nat.reduceBEq,i64,bV,iD,bD,samO,intsD,h2,h11,h12,h13,h14,h15,List.length_map]
  refine call_sx (X:=5) (Y:=6) (Z:=7) (r':=.tu []) hdb (by decide) rfl rfl rfl rfl rfl rfl ?_
  simp only[List.set_cons_zero,List.set_cons_succ]
  have hspent:spentAt p q t F i=(fa.spent||fb.spent):=by unfold spentAt; rw[hAs,hBs]
  cases hsa:fa.spent with
  | true =>
   have hV:sameV p q t F=.tu [bV false,i64 11]:=by
    unfold sameV
    rw[if_pos (List.any_eq_true.2 ⟨i,List.mem_range.2 (by omega),by rw[hspent,hsa,Bool.true_or]⟩)]
   rw[hV]
   unfold sO1
   simp only[zX,Nat.reduceShiftRight,Nat.reduceMod,Nat.reduceLT,Nat.reduceMul,Nat.reduceSub,Int.reduceToNat,Int.reduceNeg,Int.reduceLT,Int.reduceLE,Int.reduceEq,Nat.reduceEqDiff,Nat.reduceAdd,Nat.reduceLeDiff,reduceIte,reduceCtorEq,Nat.reduceBEq,i64,bV,iD,bD,samO,intsD,h2,h11,h12,h13,h14,h15,hsa,List.length_map]
  | false =>
   cases hsb:fb.spent with
   | true =>
    have hV:sameV p q t F=.tu [bV false,i64 11]:=by
     unfold sameV
     rw[if_pos (List.any_eq_true.2 ⟨i,List.mem_range.2 (by omega),by rw[hspent,hsb,Bool.or_true]⟩)]
    rw[hV]
    unfold sO1
    simp only[zX,Nat.reduceShiftRight,Nat.reduceMod,Nat.reduceLT,Nat.reduceMul,Nat.reduceSub,Int.reduceToNat,Int.reduceNeg,Int.reduceLT,Int.reduceLE,Int.reduceEq,Nat.reduceEqDiff,Nat.reduceAdd,Nat.reduceLeDiff,reduceIte,reduceCtorEq,Nat.reduceBEq,i64,bV,iD,bD,samO,intsD,h2,h11,h12,h13,h14,h15,hsa,hsb,List.length_map]
   | false =>
    have hsmt:=hsm hsa hsb
    subst hsmt
    unfold sO1
    simp only[zX,Nat.reduceShiftRight,Nat.reduceMod,Nat.reduceLT,Nat.reduceMul,Nat.reduceSub,Int.reduceToNat,Int.reduceNeg,Int.reduceLT,Int.reduceLE,Int.reduceEq,Nat.reduceEqDiff,Nat.reduceAdd,Nat.reduceLeDiff,reduceIte,reduceCtorEq,Nat.reduceBEq,i64,bV,iD,bD,samO,intsD,h2,h11,h12,h13,h14,h15,hsa,hsb,List.length_map]
    refine⟨t.length + 1 - (i + 1),_,_,by omega,Cln.refl,i + 1,fa,fb,rfl,by omega,?_,?_,?_,?_,?_,by rw[hsa,hsb],⟨hAf.p.trans hra.p,hAf.t.trans hra.t,hAf.fuel.trans hra.f,hsa,hAk⟩,⟨hBf.p.trans hrb.p,hBf.t.trans hrb.t,hBf.fuel.trans hrb.f,hsb,hBk⟩,by rw[List.range_succ,List.any_append,hany,List.any_cons,List.any_nil,hspent,hsa,hsb]; rfl⟩ <;> (try simp only[zU,Nat.reduceBEq,Nat.reduceShiftRight,Nat.reduceMod,Nat.reduceEqDiff,reduceIte])
    ·exact h2
    ·exact h11
    ·exact h12
    ·exact h13
    ·rw[w64 _ (by omega)]; rfl
theorem fitsU_gen {p:Pat} {t:List Int} {F:Int} (h:p.re.every genB=true) (hr:p.runes=false):∀n,(fitsFrom p t F n).1.re.every genB=true∧(fitsFrom p t F n).1.runes=false
 | 0=>⟨rfl,rfl⟩
 | n + 1=>by
  unfold fitsFrom
  split
  ·exact⟨h,hr⟩
  ·exact fitsU_gen h hr n
theorem fits_genU (l m:List Int) (hl:∀x∈l,I64 x) (hm:∀x∈m,I64 x) (uses most F:Int) (h0:0≤most) (h1:most≤100) (hF0:1≤F) (hF1:F≤1099511627776):∃(p:Pat) (t:List Int),PureOK prog 10 [.d (intsD l),.d (intsD m),i64 uses,i64 most,i64 F] (.tu [patV p,.d (intsD t)]) ∧
  (∀i:Int,0≤i→i≤t.length→allE p t i (-1) F=0)∧p.re.fine=true∧t.length≤12∧p.re.every genB=true∧p.runes=false:=by
 obtain⟨hv,hsz⟩:=pat_valid l uses most hl h0 h1
 have hsm:=pat_small l uses most hl h0 h1
 have hfine:(patOf l uses most).re.fine=true:=small_fine (by omega) _ hsm.ev
 have htl:(textR m 12).length≤12:=by simp [textR]; omega
 obtain⟨g1,g2,g3⟩:=fits_good (p:=patOf l uses most) (t:=textR m 12) (F:=F) hv hfine hF0 hF1 ((textR m 12).length + 1) (Nat.le_refl _)
 have hg:=fitsU_gen (p:=patOf l uses most) (t:=textR m 12) (F:=F) (pat_gen l uses most) rfl ((textR m 12).length + 1)
 exact⟨_,_,fits_ok l m hl hm uses most F h0 h1,g1,g2,by omega,hg.1,hg.2⟩
theorem valid7_by {p:Pat} {t:List Int} {F:Int} (h:validR p=0) (ht:t.length≤65536) (hs:t.all (symB p.runes)=true) (h0:0≤F) (h1:F≤1099511627776):valid7 p t F=0:=by
 unfold valid7
 rw[if_neg (by omega),if_neg (by omega),if_neg (by rw[hs]; exact Bool.noConfusion),if_neg (by omega)]
theorem semUnrolledL_ok (l:List Int) (hl:∀x∈l,I64 x) (m:List Int) (hm:∀x∈m,I64 x) (uses:Int) (hu:I64 uses) :
  PureOK prog 9 [.d (intsD l),.d (intsD m),i64 uses] (bV true):=by
 have har:=around_ok uses 128 (by omega) hu
 obtain⟨p,t,hfit,hgood,hf,htl,hgen,hrun⟩:=fits_genU l m hl hm (around uses 128) 20 6000 (by omega) (by omega) (by omega) (by omega)
 obtain⟨hv0,_,_,_⟩:=allE_valid (hgood 0 (by omega) (by omega))
 obtain⟨hp,_,hsym,_,_⟩:=valid7_spec hv0
 have hlv:=lives7_ok
 have hexq:=gen_exq p.re hgen
 have hexp:=expand_ok p.re hexq
 have hval:=val_whole (validR_spec hp).2.2.2.2
 clear hgood hgen
 cases p with
 | mk re caps runes =>
 have hrun:runes=false:=hrun
 subst hrun
 simp only[patV_C,patC_eq,List.map_cons,List.map_nil,i64,iD,bD,bV,reV_eq re] at hfit har hexp hlv
 refine fn_ok func9 rfl ntmps9 results9 rfl 0 16327 (by simp) (by simp) ?_
 simp only[zX,Nat.reduceShiftRight,Nat.reduceMod,Nat.reduceLT,Nat.reduceMul,Nat.reduceSub,Int.reduceToNat,Int.reduceNeg,Int.reduceLT,Int.reduceLE,Int.reduceEq,Nat.reduceEqDiff,Nat.reduceAdd,Nat.reduceLeDiff,reduceIte,reduceCtorEq,Nat.reduceBEq,i64,bV,iD,bD]
 refine call_pure har rfl rfl ?_
 simp only[zX,Nat.reduceShiftRight,Nat.reduceMod,Nat.reduceLT,Nat.reduceMul,Nat.reduceSub,Int.reduceToNat,Int.reduceNeg,Int.reduceLT,Int.reduceLE,Int.reduceEq,Nat.reduceEqDiff,Nat.reduceAdd,Nat.reduceLeDiff,reduceIte,reduceCtorEq,Nat.reduceBEq,i64,bV,iD,bD]
 refine call_pure hfit rfl rfl ?_
 simp only[zX,Nat.reduceShiftRight,Nat.reduceMod,Nat.reduceLT,Nat.reduceMul,Nat.reduceSub,Int.reduceToNat,Int.reduceNeg,Int.reduceLT,Int.reduceLE,Int.reduceEq,Nat.reduceEqDiff,Nat.reduceAdd,Nat.reduceLeDiff,reduceIte,reduceCtorEq,Nat.reduceBEq,i64,bV,iD,bD]
 have hk:∀z:Re × Int,expandR re=z→PureOK prog 29 [reV re] (.tu [reV z.1,i64 z.2]):=fun z hz=>hz ▸ expand_ok re hexq
 by_cases hxa:re.exa=false
 ·have hE:expandR re=(zeroR,10):=by unfold expandR; rw[if_pos hxa]
  have hex:=hk _ hE
  simp only[reV_eq re,reV_eq zeroR,i64,iD,bD] at hex
  refine call_pure hex rfl rfl ?_
  simp only[zX,Nat.reduceShiftRight,Nat.reduceMod,Nat.reduceLT,Nat.reduceMul,Nat.reduceSub,Int.reduceToNat,Int.reduceNeg,Int.reduceLT,Int.reduceLE,Int.reduceEq,Nat.reduceEqDiff,Nat.reduceAdd,Nat.reduceLeDiff,reduceIte,reduceCtorEq,Nat.reduceBEq,i64,bV,iD,bD,ne_eq,not_true_eq_false,not_false_eq_true,decide_true,decide_false,Bool.false_eq_true]
  refine call_pure hlv rfl rfl ?_
  simp only[zX,Nat.reduceShiftRight,Nat.reduceMod,Nat.reduceLT,Nat.reduceMul,Nat.reduceSub,Int.reduceToNat,Int.reduceNeg,Int.reduceLT,Int.reduceLE,Int.reduceEq,Nat.reduceEqDiff,Nat.reduceAdd,Nat.reduceLeDiff,reduceIte,reduceCtorEq,Nat.reduceBEq,i64,bV,iD,bD,ne_eq,not_true_eq_false,not_false_eq_true,decide_true,decide_false,Bool.false_eq_true]
 by_cases hxz:4096 < re.esz
 ·have hE:expandR re=(zeroR,4):=by unfold expandR; rw[if_neg hxa,if_pos hxz]
  have hex:=hk _ hE
  simp only[reV_eq re,reV_eq zeroR,i64,iD,bD] at hex
  refine call_pure hex rfl rfl ?_
  simp only[zX,Nat.reduceShiftRight,Nat.reduceMod,Nat.reduceLT,Nat.reduceMul,Nat.reduceSub,Int.reduceToNat,Int.reduceNeg,Int.reduceLT,Int.reduceLE,Int.reduceEq,Nat.reduceEqDiff,Nat.reduceAdd,Nat.reduceLeDiff,reduceIte,reduceCtorEq,Nat.reduceBEq,i64,bV,iD,bD,ne_eq,not_true_eq_false,not_false_eq_true,decide_true,decide_false,Bool.false_eq_true]
  refine call_pure hlv rfl rfl ?_
  simp only[zX,Nat.reduceShiftRight,Nat.reduceMod,Nat.reduceLT,Nat.reduceMul,Nat.reduceSub,Int.reduceToNat,Int.reduceNeg,Int.reduceLT,Int.reduceLE,Int.reduceEq,Nat.reduceEqDiff,Nat.reduceAdd,Nat.reduceLeDiff,reduceIte,reduceCtorEq,Nat.reduceBEq,i64,bV,iD,bD,ne_eq,not_true_eq_false,not_false_eq_true,decide_true,decide_false,Bool.false_eq_true]
 have hxa:re.exa=true:=by simpa using hxa
 have hE:expandR re=(re.exp,0):=by unfold expandR; rw[if_neg (by rw[hxa]; exact Bool.noConfusion),if_neg hxz]
 have hex:=hk _ hE
 have hfx:re.exp.fine=true:=(exp_both re hexq hxa).1
 have hsx:(re.exp.size:Int)≤4096:=by have:=(exp_sizes re hval hxa).1; omega
 have hvx:=refValid_ok ⟨re.exp,caps,false⟩ hfx (by show re.exp.size≤1000000000; omega)
 have hsame:=fun (h1:valid7 ⟨re,caps,false⟩ t 120000=0) (h2:valid7 ⟨re.exp,caps,false⟩ t 120000=0)=>same_run ⟨re,caps,false⟩ ⟨re.exp,caps,false⟩ t 120000 hf hfx h1 h2 (by omega) rfl (fun i a0 a1 e1 e2=>unrolled_res h1 h2 hxa a0 a1 e1 e2)
 have hv1:valid7 ⟨re,caps,false⟩ t 120000=0:=valid7_fuel hv0 (by omega) (by omega)
 have hvq:validR ⟨re.exp,caps,false⟩=0→valid7 ⟨re.exp,caps,false⟩ t 120000=0:=fun h=>valid7_by h (by omega) hsym (by omega) (by omega)
 generalize validR ⟨re.exp,caps,false⟩=vq at *
 simp only[reV_eq re,reV_eq re.exp,patV_C,patC_eq,List.map_cons,List.map_nil,i64,iD,bD] at hex hvx
 refine call_pure hex rfl rfl ?_
 simp only[zX,Nat.reduceShiftRight,Nat.reduceMod,Nat.reduceLT,Nat.reduceMul,Nat.reduceSub,Int.reduceToNat,Int.reduceNeg,Int.reduceLT,Int.reduceLE,Int.reduceEq,Nat.reduceEqDiff,Nat.reduceAdd,Nat.reduceLeDiff,reduceIte,reduceCtorEq,Nat.reduceBEq,i64,bV,iD,bD,ne_eq,not_true_eq_false,not_false_eq_true,decide_true,decide_false,Bool.false_eq_true]
 refine call_pure hvx rfl rfl ?_
 by_cases hq:vq=0
 case neg =>
  simp only[zX,Nat.reduceShiftRight,Nat.reduceMod,Nat.reduceLT,Nat.reduceMul,Nat.reduceSub,Int.reduceToNat,Int.reduceNeg,Int.reduceLT,Int.reduceLE,Int.reduceEq,Nat.reduceEqDiff,Nat.reduceAdd,Nat.reduceLeDiff,reduceIte,reduceCtorEq,Nat.reduceBEq,i64,bV,iD,bD,hq,ne_eq,not_true_eq_false,not_false_eq_true,decide_true,decide_false,Bool.false_eq_true]
  refine call_pure hlv rfl rfl ?_
  simp only[zX,Nat.reduceShiftRight,Nat.reduceMod,Nat.reduceLT,Nat.reduceMul,Nat.reduceSub,Int.reduceToNat,Int.reduceNeg,Int.reduceLT,Int.reduceLE,Int.reduceEq,Nat.reduceEqDiff,Nat.reduceAdd,Nat.reduceLeDiff,reduceIte,reduceCtorEq,Nat.reduceBEq,i64,bV,iD,bD,ne_eq,not_true_eq_false,not_false_eq_true,decide_true,decide_false,Bool.false_eq_true]
 subst hq
 have hsm:=hsame hv1 (hvq rfl)
 unfold sameV at hsm
 simp only[patV_C,patC_eq,List.map_cons,List.map_nil,i64,iD,bD,bV] at hsm
 by_cases hany:(List.range (t.length + 1)).any (spentAt ⟨re,caps,false⟩ ⟨re.exp,caps,false⟩ t 120000)=true
 ·rw[if_pos hany] at hsm
  simp only[zX,Nat.reduceShiftRight,Nat.reduceMod,Nat.reduceLT,Nat.reduceMul,Nat.reduceSub,Int.reduceToNat,Int.reduceNeg,Int.reduceLT,Int.reduceLE,Int.reduceEq,Nat.reduceEqDiff,Nat.reduceAdd,Nat.reduceLeDiff,reduceIte,reduceCtorEq,Nat.reduceBEq,i64,bV,iD,bD,ne_eq,not_true_eq_false,not_false_eq_true,decide_true,decide_false,Bool.false_eq_true]
  refine call_pure hsm rfl rfl ?_
  simp only[zX,Nat.reduceShiftRight,Nat.reduceMod,Nat.reduceLT,Nat.reduceMul,Nat.reduceSub,Int.reduceToNat,Int.reduceNeg,Int.reduceLT,Int.reduceLE,Int.reduceEq,Nat.reduceEqDiff,Nat.reduceAdd,Nat.reduceLeDiff,reduceIte,reduceCtorEq,Nat.reduceBEq,i64,bV,iD,bD,ne_eq,not_true_eq_false,not_false_eq_true,decide_true,decide_false,Bool.false_eq_true]
  refine call_pure hlv rfl rfl ?_
  simp only[zX,Nat.reduceShiftRight,Nat.reduceMod,Nat.reduceLT,Nat.reduceMul,Nat.reduceSub,Int.reduceToNat,Int.reduceNeg,Int.reduceLT,Int.reduceLE,Int.reduceEq,Nat.reduceEqDiff,Nat.reduceAdd,Nat.reduceLeDiff,reduceIte,reduceCtorEq,Nat.reduceBEq,i64,bV,iD,bD,ne_eq,not_true_eq_false,not_false_eq_true,decide_true,decide_false,Bool.false_eq_true]
 ·rw[if_neg hany] at hsm
  simp only[zX,Nat.reduceShiftRight,Nat.reduceMod,Nat.reduceLT,Nat.reduceMul,Nat.reduceSub,Int.reduceToNat,Int.reduceNeg,Int.reduceLT,Int.reduceLE,Int.reduceEq,Nat.reduceEqDiff,Nat.reduceAdd,Nat.reduceLeDiff,reduceIte,reduceCtorEq,Nat.reduceBEq,i64,bV,iD,bD,ne_eq,not_true_eq_false,not_false_eq_true,decide_true,decide_false,Bool.false_eq_true]
  refine call_pure hsm rfl rfl ?_
  simp only[zX,Nat.reduceShiftRight,Nat.reduceMod,Nat.reduceLT,Nat.reduceMul,Nat.reduceSub,Int.reduceToNat,Int.reduceNeg,Int.reduceLT,Int.reduceLE,Int.reduceEq,Nat.reduceEqDiff,Nat.reduceAdd,Nat.reduceLeDiff,reduceIte,reduceCtorEq,Nat.reduceBEq,i64,bV,iD,bD,ne_eq,not_true_eq_false,not_false_eq_true,decide_true,decide_false,Bool.false_eq_true]
  refine call_pure hlv rfl rfl ?_
  simp only[zX,Nat.reduceShiftRight,Nat.reduceMod,Nat.reduceLT,Nat.reduceMul,Nat.reduceSub,Int.reduceToNat,Int.reduceNeg,Int.reduceLT,Int.reduceLE,Int.reduceEq,Nat.reduceEqDiff,Nat.reduceAdd,Nat.reduceLeDiff,reduceIte,reduceCtorEq,Nat.reduceBEq,i64,bV,iD,bD,ne_eq,not_true_eq_false,not_false_eq_true,decide_true,decide_false,Bool.false_eq_true]
end Go.Proofs.Ytimnnipoaafdfaa
