/- A part of the proof (MM24 MM25). -/
import Derived.Test.YtpppfpaalcbggaaMB38
import Derived.Test.YtpppfpaalcbggaaMB37
set_option linter.unusedSimpArgs false
set_option linter.unusedVariables false
set_option maxRecDepth 100000
set_option maxHeartbeats 80000000
namespace Go.Proofs.Ytpppfpaalcbggaa
open Go.VL
def boundE (p:Pat) (n:Int):Int × Int :=
 if validR p≠0 then (0,validR p) else if depB p.re=true then (0,10) else if n < 0∨65536 < n then (0,5) else if 1099511627776 < boundM p.re n then (0,4) else (boundM p.re n,0)
def refB (re:Re) (n:Int):Int:=outR (weiR re) (n + 2) (2 + loopR re).toNat (1 + deepR re).toNat 1
def refBoundE (p:Pat) (n:Int):Int × Int :=
 if validR p≠0 then (0,validR p) else if (!decide (bitV .and .i64 p.re.usesR 3=0))=true then (0,10) else if n < 0∨65536 < n then (0,5) else if 1099511627776 < refB p.re n then (0,4) else (refB p.re n,0)
theorem memoBound_ok (p:Pat) (n:Int) (hf:p.re.fine=true) (hsz:p.re.size≤1000000):PureOK Try.prog 11 [.ag ((patC p).map .d),i64 n] (.tu [i64 (boundE p n).1,i64 (boundE p n).2]):=by
 have hv:=valid_ok p hf
 have hus:=uses_ok p.re hf
 rw[reV_eq] at hus
 have hpc:=patC_eq p
 unfold boundE depB
 by_cases c:validR p=0
 case neg =>
  rw[if_pos c]
  generalize validR p=vp at *
  rw[hpc] at hv ⊢
  simp only[iD,bD,i64,List.map_cons,List.map_nil] at hv
  refine fn_ok Try.func11 rfl Try.ntmps11 Try.results11 rfl 0 2039 (by simp) (by simp) ?_
  simp only[zX,Nat.reduceShiftRight,Nat.reduceMod,Nat.reduceLT,Nat.reduceMul,Nat.reduceSub,Int.reduceToNat,Int.reduceNeg,Int.reduceLT,Int.reduceLE,Int.reduceEq,Nat.reduceEqDiff,Nat.reduceAdd,Nat.reduceLeDiff,reduceIte,reduceCtorEq,Nat.reduceBEq,i64,iD,bD,List.map_cons,List.map_nil]
  refine call_pure hv rfl rfl ?_
  simp only[zX,Nat.reduceShiftRight,Nat.reduceMod,Nat.reduceLT,Nat.reduceMul,Nat.reduceSub,Int.reduceToNat,Int.reduceNeg,Int.reduceLT,Int.reduceLE,Int.reduceEq,Nat.reduceEqDiff,Nat.reduceAdd,Nat.reduceLeDiff,reduceIte,reduceCtorEq,Nat.reduceBEq,i64,iD,bD,c,ne_eq,not_false_eq_true]
 rw[if_neg (fun h=>h c)]
 have hvb:=valid_val c
 rw[c] at hv
 rw[hpc] at hv ⊢
 simp only[iD,bD,i64,List.map_cons,List.map_nil] at hv hus
 by_cases cu:bitV .and .i64 (p.re.usesA 0) 3=0
 case neg =>
  rw[if_pos (by simp [cu])]
  refine fn_ok Try.func11 rfl Try.ntmps11 Try.results11 rfl 0 2039 (by simp) (by simp) ?_
  simp only[zX,Nat.reduceShiftRight,Nat.reduceMod,Nat.reduceLT,Nat.reduceMul,Nat.reduceSub,Int.reduceToNat,Int.reduceNeg,Int.reduceLT,Int.reduceLE,Int.reduceEq,Nat.reduceEqDiff,Nat.reduceAdd,Nat.reduceLeDiff,reduceIte,reduceCtorEq,Nat.reduceBEq,i64,iD,bD,List.map_cons,List.map_nil]
  refine call_pure hv rfl rfl ?_
  simp only[zX,Nat.reduceShiftRight,Nat.reduceMod,Nat.reduceLT,Nat.reduceMul,Nat.reduceSub,Int.reduceToNat,Int.reduceNeg,Int.reduceLT,Int.reduceLE,Int.reduceEq,Nat.reduceEqDiff,Nat.reduceAdd,Nat.reduceLeDiff,reduceIte,reduceCtorEq,Nat.reduceBEq,i64,iD,bD,ne_eq,not_true_eq_false]
  refine call_pure hus rfl rfl ?_
  simp only[zX,Nat.reduceShiftRight,Nat.reduceMod,Nat.reduceLT,Nat.reduceMul,Nat.reduceSub,Int.reduceToNat,Int.reduceNeg,Int.reduceLT,Int.reduceLE,Int.reduceEq,Nat.reduceEqDiff,Nat.reduceAdd,Nat.reduceLeDiff,reduceIte,reduceCtorEq,Nat.reduceBEq,i64,iD,bD,ne_eq,cu,not_false_eq_true,decide_false,Bool.not_false]
 rw[if_neg (by simp [cu])]
 by_cases cn:n < 0∨65536 < n
 ·rw[if_pos cn]
  have cn2:n < 0∨(¬n < 0∧65536 < n):=by omega
  rcases cn2 with c1 | ⟨c1,c2⟩
  all_goals
   refine fn_ok Try.func11 rfl Try.ntmps11 Try.results11 rfl 0 2039 (by simp) (by simp) ?_
   simp only[zX,Nat.reduceShiftRight,Nat.reduceMod,Nat.reduceLT,Nat.reduceMul,Nat.reduceSub,Int.reduceToNat,Int.reduceNeg,Int.reduceLT,Int.reduceLE,Int.reduceEq,Nat.reduceEqDiff,Nat.reduceAdd,Nat.reduceLeDiff,reduceIte,reduceCtorEq,Nat.reduceBEq,i64,iD,bD,List.map_cons,List.map_nil]
   refine call_pure hv rfl rfl ?_
   simp only[zX,Nat.reduceShiftRight,Nat.reduceMod,Nat.reduceLT,Nat.reduceMul,Nat.reduceSub,Int.reduceToNat,Int.reduceNeg,Int.reduceLT,Int.reduceLE,Int.reduceEq,Nat.reduceEqDiff,Nat.reduceAdd,Nat.reduceLeDiff,reduceIte,reduceCtorEq,Nat.reduceBEq,i64,iD,bD,ne_eq,not_true_eq_false]
   refine call_pure hus rfl rfl ?_
  ·simp only[zX,Nat.reduceShiftRight,Nat.reduceMod,Nat.reduceLT,Nat.reduceMul,Nat.reduceSub,Int.reduceToNat,Int.reduceNeg,Int.reduceLT,Int.reduceLE,Int.reduceEq,Nat.reduceEqDiff,Nat.reduceAdd,Nat.reduceLeDiff,reduceIte,reduceCtorEq,Nat.reduceBEq,i64,iD,bD,ne_eq,cu,not_true_eq_false,decide_true,Bool.not_true,c1]
  ·simp only[zX,Nat.reduceShiftRight,Nat.reduceMod,Nat.reduceLT,Nat.reduceMul,Nat.reduceSub,Int.reduceToNat,Int.reduceNeg,Int.reduceLT,Int.reduceLE,Int.reduceEq,Nat.reduceEqDiff,Nat.reduceAdd,Nat.reduceLeDiff,reduceIte,reduceCtorEq,Nat.reduceBEq,i64,iD,bD,ne_eq,cu,not_true_eq_false,decide_true,Bool.not_true,c1,c2,gt_iff_lt]
 rw[if_neg cn]
 have c1:¬n < 0:=fun h=>cn (.inl h)
 have c2:¬65536 < n:=fun h=>cn (.inr h)
 have hms:=measures_ok p.re hf hvb (by omega)
 obtain⟨a1,a2,a3,a4,a5,a6⟩:=meas_in p.re hvb
 unfold boundM
 simp only
 generalize measM p.re=x at *
 obtain⟨w,lo,de⟩:=x
 simp only at a1 a2 a3 a4 a5 a6 hms ⊢
 obtain⟨L,hL⟩:∃L:Nat,L=(2 + lo).toNat:=⟨_,rfl⟩
 obtain⟨D2,hD⟩:∃D2:Nat,D2=(1 + de).toNat:=⟨_,rfl⟩
 rw[← hL,← hD]
 have hLi:(L:Int)=2 + lo:=by omega
 have hDi:(D2:Int)=1 + de:=by omega
 have h1:=power_ok (n + 2) (by omega) (by unfold topM; omega) L (by omega)
 have hP:=powM_pos (show 0 < n + 2 by omega) L
 have hP2:=powM_le (show 0 < n + 2 by omega) L
 have h2:=product_ok w (powM (n + 2) L) a1 hP (Int.le_trans a2 over_top) (Int.le_trans hP2 over_top)
 have hQ:=prodM_pos a1 hP
 have hQ2:=prodM_le (a:=w) hP
 have h3:=power_ok (prodM w (powM (n + 2) L)) hQ (Int.le_trans hQ2 over_top) D2 (by omega)
 generalize powM (n + 2) L=P1 at *
 generalize prodM w P1=P2 at *
 generalize powM P2 D2=P3 at *
 have w1:IntKind.i64.wrap (n + 2)=n + 2:=w64 _ (by omega)
 have w2:IntKind.i64.wrap (2 + lo)=(L:Int):=by rw[w64 _ (by omega)]; omega
 have w3:IntKind.i64.wrap (1 + de)=(D2:Int):=by rw[w64 _ (by omega)]; omega
 have hms2:=fun K hk=>call_weak (ex:=[iD p.caps,bD p.runes]) (call_pure (s:=[⟨0,false,10,[[i64 p.re.op,.d (.sl (p.re.set.map spanC)),.d (.sl (p.re.kids.map Re.cells)),i64 p.re.mn,i64 p.re.mx,i64 p.re.mode,i64 p.re.n,bV p.re.neg,i64 p.caps,bV p.runes]]⟩]) (K:=K) hms rfl rfl hk)
 rw[Re.cells_eq p.re] at hms2
 simp only[i64,bV,iD,bD,List.cons_append,List.nil_append] at hms2 h1 h2 h3
 refine fn_ok Try.func11 rfl Try.ntmps11 Try.results11 rfl 0 2039 (by simp) (by simp) ?_
 simp only[zX,Nat.reduceShiftRight,Nat.reduceMod,Nat.reduceLT,Nat.reduceMul,Nat.reduceSub,Int.reduceToNat,Int.reduceNeg,Int.reduceLT,Int.reduceLE,Int.reduceEq,Nat.reduceEqDiff,Nat.reduceAdd,Nat.reduceLeDiff,reduceIte,reduceCtorEq,Nat.reduceBEq,i64,iD,bD,List.map_cons,List.map_nil]
 refine call_pure hv rfl rfl ?_
 simp only[zX,Nat.reduceShiftRight,Nat.reduceMod,Nat.reduceLT,Nat.reduceMul,Nat.reduceSub,Int.reduceToNat,Int.reduceNeg,Int.reduceLT,Int.reduceLE,Int.reduceEq,Nat.reduceEqDiff,Nat.reduceAdd,Nat.reduceLeDiff,reduceIte,reduceCtorEq,Nat.reduceBEq,i64,iD,bD,ne_eq,not_true_eq_false]
 refine call_pure hus rfl rfl ?_
 simp only[zX,Nat.reduceShiftRight,Nat.reduceMod,Nat.reduceLT,Nat.reduceMul,Nat.reduceSub,Int.reduceToNat,Int.reduceNeg,Int.reduceLT,Int.reduceLE,Int.reduceEq,Nat.reduceEqDiff,Nat.reduceAdd,Nat.reduceLeDiff,reduceIte,reduceCtorEq,Nat.reduceBEq,i64,iD,bD,ne_eq,cu,not_true_eq_false,decide_true,Bool.not_true,c1,c2,gt_iff_lt]
 refine call_give [0] (by simp [killO,kill1,frzV.go,frzV,frzD]; rfl) ?_
 refine hms2 _ ?_
 simp only[zX,Nat.reduceShiftRight,Nat.reduceMod,Nat.reduceLT,Nat.reduceMul,Nat.reduceSub,Int.reduceToNat,Int.reduceNeg,Int.reduceLT,Int.reduceLE,Int.reduceEq,Nat.reduceEqDiff,Nat.reduceAdd,Nat.reduceLeDiff,reduceIte,reduceCtorEq,Nat.reduceBEq,i64,iD,bD,w1,w2,w3]
 refine call_pure h1 rfl rfl ?_
 simp only[zX,Nat.reduceShiftRight,Nat.reduceMod,Nat.reduceLT,Nat.reduceMul,Nat.reduceSub,Int.reduceToNat,Int.reduceNeg,Int.reduceLT,Int.reduceLE,Int.reduceEq,Nat.reduceEqDiff,Nat.reduceAdd,Nat.reduceLeDiff,reduceIte,reduceCtorEq,Nat.reduceBEq,i64,iD,bD,w1,w2,w3]
 refine call_pure h2 rfl rfl ?_
 simp only[zX,Nat.reduceShiftRight,Nat.reduceMod,Nat.reduceLT,Nat.reduceMul,Nat.reduceSub,Int.reduceToNat,Int.reduceNeg,Int.reduceLT,Int.reduceLE,Int.reduceEq,Nat.reduceEqDiff,Nat.reduceAdd,Nat.reduceLeDiff,reduceIte,reduceCtorEq,Nat.reduceBEq,i64,iD,bD,w1,w2,w3]
 refine call_pure h3 rfl rfl ?_
 by_cases c4:1099511627776 < P3
 ·rw[if_pos c4]
  simp only[zX,Nat.reduceShiftRight,Nat.reduceMod,Nat.reduceLT,Nat.reduceMul,Nat.reduceSub,Int.reduceToNat,Int.reduceNeg,Int.reduceLT,Int.reduceLE,Int.reduceEq,Nat.reduceEqDiff,Nat.reduceAdd,Nat.reduceLeDiff,reduceIte,reduceCtorEq,Nat.reduceBEq,i64,iD,bD,gt_iff_lt,c4]
 ·rw[if_neg c4]
  simp only[zX,Nat.reduceShiftRight,Nat.reduceMod,Nat.reduceLT,Nat.reduceMul,Nat.reduceSub,Int.reduceToNat,Int.reduceNeg,Int.reduceLT,Int.reduceLE,Int.reduceEq,Nat.reduceEqDiff,Nat.reduceAdd,Nat.reduceLeDiff,reduceIte,reduceCtorEq,Nat.reduceBEq,i64,iD,bD,gt_iff_lt,c4]
theorem timesN_succ (b:Int):∀(n:Nat) (a:Int),timesN b (n + 1) a=timesR (timesN b n a) b
 | 0,a=>rfl
 | n + 1,a=>by
  rw[timesN,timesN_succ b n (timesR a b)]
  rfl
theorem outR_succ (w b:Int) (j:Nat):∀(n:Nat) (a:Int),outR w b j (n + 1) a=timesN b j (timesR (outR w b j n a) w)
 | 0,a=>rfl
 | n + 1,a=>by
  rw[outR,outR_succ w b j n (timesN b j (timesR a w))]
  rfl
theorem timesN_in {b a:Int} (hb:0 < b) (ha:0 < a) (ha2:a≤topM):∀n,0 < timesN b n a∧timesN b n a≤topM
 | 0=>⟨ha,ha2⟩
 | n + 1=>by
  have h:=timesN_in hb ha ha2 n
  rw[timesN_succ]
  exact⟨timesR_pos h.1 hb,timesR_top h.1 hb⟩
theorem outR_in {w b:Int} (hw:0 < w) (hb:0 < b) (j:Nat):∀n,0 < outR w b j n 1∧outR w b j n 1≤topM
 | 0=>by rw[outR]; exact⟨by decide,by decide⟩
 | n + 1=>by
  have h:=outR_in hw hb j n
  rw[outR_succ]
  exact timesN_in hb (timesR_pos h.1 hw) (timesR_top h.1 hw) j
def pB10 (p:Pat):VL.Obj:=⟨0,true,10,[[i64 p.re.op,.d (.sl (p.re.set.map spanC)),.d (.sl (p.re.kids.map Re.cells)),i64 p.re.mn,i64 p.re.mx,i64 p.re.mode,i64 p.re.n,bV p.re.neg,i64 p.caps,bV p.runes]]⟩
theorem refBound_ok (p:Pat) (n:Int) (hf:p.re.fine=true) (hsz:p.re.size≤2000):PureOK Try.prog 14 [.ag ((patC p).map .d),i64 n] (.tu [i64 (refBoundE p n).1,i64 (refBoundE p n).2]):=by
 have hv:=refValid_ok p hf (by omega)
 rw[patV_C] at hv
 have hus:=refUses_ok p.re (by omega)
 rw[reV_eq] at hus
 have hpc:=patC_eq p
 unfold refBoundE
 by_cases c:validR p=0
 case neg =>
  rw[if_pos c]
  generalize validR p=vp at *
  rw[hpc] at hv ⊢
  simp only[iD,bD,i64,List.map_cons,List.map_nil] at hv
  refine fn_ok Try.func14 rfl Try.ntmps14 Try.results14 rfl 0 2039 (by simp) (by simp) ?_
  simp only[zX,Nat.reduceShiftRight,Nat.reduceMod,Nat.reduceLT,Nat.reduceMul,Nat.reduceSub,Int.reduceToNat,Int.reduceNeg,Int.reduceLT,Int.reduceLE,Int.reduceEq,Nat.reduceEqDiff,Nat.reduceAdd,Nat.reduceLeDiff,reduceIte,reduceCtorEq,Nat.reduceBEq,i64,iD,bD,List.map_cons,List.map_nil]
  refine call_pure hv rfl rfl ?_
  simp only[zX,Nat.reduceShiftRight,Nat.reduceMod,Nat.reduceLT,Nat.reduceMul,Nat.reduceSub,Int.reduceToNat,Int.reduceNeg,Int.reduceLT,Int.reduceLE,Int.reduceEq,Nat.reduceEqDiff,Nat.reduceAdd,Nat.reduceLeDiff,reduceIte,reduceCtorEq,Nat.reduceBEq,i64,iD,bD,c,ne_eq,not_false_eq_true]
 rw[if_neg (fun h=>h c)]
 have hvb:=valid_val c
 rw[c] at hv
 rw[hpc] at hv ⊢
 simp only[iD,bD,i64,List.map_cons,List.map_nil] at hv hus
 by_cases cu:bitV .and .i64 p.re.usesR 3=0
 case neg =>
  rw[if_pos (by simp [cu])]
  refine fn_ok Try.func14 rfl Try.ntmps14 Try.results14 rfl 0 2039 (by simp) (by simp) ?_
  simp only[zX,Nat.reduceShiftRight,Nat.reduceMod,Nat.reduceLT,Nat.reduceMul,Nat.reduceSub,Int.reduceToNat,Int.reduceNeg,Int.reduceLT,Int.reduceLE,Int.reduceEq,Nat.reduceEqDiff,Nat.reduceAdd,Nat.reduceLeDiff,reduceIte,reduceCtorEq,Nat.reduceBEq,i64,iD,bD,List.map_cons,List.map_nil]
  refine call_pure hv rfl rfl ?_
  simp only[zX,Nat.reduceShiftRight,Nat.reduceMod,Nat.reduceLT,Nat.reduceMul,Nat.reduceSub,Int.reduceToNat,Int.reduceNeg,Int.reduceLT,Int.reduceLE,Int.reduceEq,Nat.reduceEqDiff,Nat.reduceAdd,Nat.reduceLeDiff,reduceIte,reduceCtorEq,Nat.reduceBEq,i64,iD,bD,ne_eq,not_true_eq_false]
  refine call_pure hus rfl rfl ?_
  simp only[zX,Nat.reduceShiftRight,Nat.reduceMod,Nat.reduceLT,Nat.reduceMul,Nat.reduceSub,Int.reduceToNat,Int.reduceNeg,Int.reduceLT,Int.reduceLE,Int.reduceEq,Nat.reduceEqDiff,Nat.reduceAdd,Nat.reduceLeDiff,reduceIte,reduceCtorEq,Nat.reduceBEq,i64,iD,bD,ne_eq,cu,not_false_eq_true,decide_false,Bool.not_false]
 rw[if_neg (by simp [cu])]
 by_cases cn:n < 0∨65536 < n
 ·rw[if_pos cn]
  have cn2:n < 0∨(¬n < 0∧65536 < n):=by omega
  rcases cn2 with c1 | ⟨c1,c2⟩
  all_goals
   refine fn_ok Try.func14 rfl Try.ntmps14 Try.results14 rfl 0 2039 (by simp) (by simp) ?_
   simp only[zX,Nat.reduceShiftRight,Nat.reduceMod,Nat.reduceLT,Nat.reduceMul,Nat.reduceSub,Int.reduceToNat,Int.reduceNeg,Int.reduceLT,Int.reduceLE,Int.reduceEq,Nat.reduceEqDiff,Nat.reduceAdd,Nat.reduceLeDiff,reduceIte,reduceCtorEq,Nat.reduceBEq,i64,iD,bD,List.map_cons,List.map_nil]
   refine call_pure hv rfl rfl ?_
   simp only[zX,Nat.reduceShiftRight,Nat.reduceMod,Nat.reduceLT,Nat.reduceMul,Nat.reduceSub,Int.reduceToNat,Int.reduceNeg,Int.reduceLT,Int.reduceLE,Int.reduceEq,Nat.reduceEqDiff,Nat.reduceAdd,Nat.reduceLeDiff,reduceIte,reduceCtorEq,Nat.reduceBEq,i64,iD,bD,ne_eq,not_true_eq_false]
   refine call_pure hus rfl rfl ?_
  ·simp only[zX,Nat.reduceShiftRight,Nat.reduceMod,Nat.reduceLT,Nat.reduceMul,Nat.reduceSub,Int.reduceToNat,Int.reduceNeg,Int.reduceLT,Int.reduceLE,Int.reduceEq,Nat.reduceEqDiff,Nat.reduceAdd,Nat.reduceLeDiff,reduceIte,reduceCtorEq,Nat.reduceBEq,i64,iD,bD,ne_eq,cu,not_true_eq_false,decide_true,Bool.not_true,c1]
  ·simp only[zX,Nat.reduceShiftRight,Nat.reduceMod,Nat.reduceLT,Nat.reduceMul,Nat.reduceSub,Int.reduceToNat,Int.reduceNeg,Int.reduceLT,Int.reduceLE,Int.reduceEq,Nat.reduceEqDiff,Nat.reduceAdd,Nat.reduceLeDiff,reduceIte,reduceCtorEq,Nat.reduceBEq,i64,iD,bD,ne_eq,cu,not_true_eq_false,decide_true,Bool.not_true,c1,c2,gt_iff_lt]
 rw[if_neg cn]
 have c1:¬n < 0:=fun h=>cn (.inl h)
 have c2:¬65536 < n:=fun h=>cn (.inr h)
 have hW:=refWeight_ok p.re hf hvb hsz
 have hL:=refLoops_ok p.re hf hvb hsz
 have hD:=refDeep_ok p.re hf hvb hsz
 obtain⟨⟨a1,a2⟩,⟨a3,a4⟩,a5,a6⟩:=ref_in p.re hvb
 rw[reV_eq] at hW hL hD
 simp only[iD,bD,i64] at hW hL hD
 unfold refB
 generalize weiR p.re=w at *
 generalize loopR p.re=lo at *
 generalize deepR p.re=de at *
 obtain⟨j,hj⟩:∃j:Nat,j=(2 + lo).toNat:=⟨_,rfl⟩
 obtain⟨N,hN⟩:∃N:Nat,N=(1 + de).toNat:=⟨_,rfl⟩
 rw[← hj,← hN]
 have hji:(2:Int) + lo=(j:Int):=by omega
 have hNi:de=(N:Int) - 1:=by omega
 have hb:0 < n + 2:=by omega
 have hbt:n + 2≤topM:=by unfold topM; omega
 have hwt:w≤topM:=by unfold topM; omega
 have hin:=outR_in a1 hb j
 have wj:IntKind.i64.wrap ((2:Int) + lo)=(j:Int):=by rw[w64 _ (by omega),hji]
 have wn:IntKind.i64.wrap (n + 2)=n + 2:=w64 _ (by omega)
 refine fn_ok Try.func14 rfl Try.ntmps14 Try.results14 rfl 0 2039 (by simp) (by simp) ?_
 simp only[zX,Nat.reduceShiftRight,Nat.reduceMod,Nat.reduceLT,Nat.reduceMul,Nat.reduceSub,Int.reduceToNat,Int.reduceNeg,Int.reduceLT,Int.reduceLE,Int.reduceEq,Nat.reduceEqDiff,Nat.reduceAdd,Nat.reduceLeDiff,reduceIte,reduceCtorEq,Nat.reduceBEq,i64,iD,bD,List.map_cons,List.map_nil]
 refine call_pure hv rfl rfl ?_
 simp only[zX,Nat.reduceShiftRight,Nat.reduceMod,Nat.reduceLT,Nat.reduceMul,Nat.reduceSub,Int.reduceToNat,Int.reduceNeg,Int.reduceLT,Int.reduceLE,Int.reduceEq,Nat.reduceEqDiff,Nat.reduceAdd,Nat.reduceLeDiff,reduceIte,reduceCtorEq,Nat.reduceBEq,i64,iD,bD,ne_eq,not_true_eq_false]
 refine call_pure hus rfl rfl ?_
 simp only[zX,Nat.reduceShiftRight,Nat.reduceMod,Nat.reduceLT,Nat.reduceMul,Nat.reduceSub,Int.reduceToNat,Int.reduceNeg,Int.reduceLT,Int.reduceLE,Int.reduceEq,Nat.reduceEqDiff,Nat.reduceAdd,Nat.reduceLeDiff,reduceIte,reduceCtorEq,Nat.reduceBEq,i64,iD,bD,ne_eq,cu,not_true_eq_false,decide_true,Bool.not_true,c1,c2,gt_iff_lt]
 refine loop_rule (fun m e s=>∃k:Nat,m=N - k∧k≤N∧e 1=i64 n∧e 2=.rf 0 0 0 0∧e 8=i64 (outR w (n + 2) j k 1)∧e 9=i64 k∧s=[pB10 p])
  ⟨_,_,_,Cln.refl,0,rfl,by omega,rfl,rfl,rfl,rfl,rfl⟩ ?_
 rintro m e s ⟨k,rfl,hk,h1,h2,h8,h9,rfl⟩
 rcases Nat.lt_or_ge k N with hlt | hge
 ·have hle:(k:Int)≤de:=by omega
  have ht:=xtimes_ok (outR w (n + 2) j k 1) w (hin k).1 a1 (hin k).2 hwt
  have hT:=timesN_in hb (timesR_pos (hin k).1 a1) (timesR_top (hin k).1 a1)
  have hos:=outR_succ w (n + 2) j k 1
  simp only[i64] at ht
  simp only[zX,Nat.reduceShiftRight,Nat.reduceMod,Nat.reduceLT,Nat.reduceMul,Nat.reduceSub,Int.reduceToNat,Int.reduceNeg,Int.reduceLT,Int.reduceLE,Int.reduceEq,Nat.reduceEqDiff,Nat.reduceAdd,Nat.reduceLeDiff,reduceIte,reduceCtorEq,Nat.reduceBEq,i64,iD,bD,pB10,bV,h1,h2,h8,h9]
  refine call_pure hD rfl rfl ?_
  simp only[zX,Nat.reduceShiftRight,Nat.reduceMod,Nat.reduceLT,Nat.reduceMul,Nat.reduceSub,Int.reduceToNat,Int.reduceNeg,Int.reduceLT,Int.reduceLE,Int.reduceEq,Nat.reduceEqDiff,Nat.reduceAdd,Nat.reduceLeDiff,reduceIte,reduceCtorEq,Nat.reduceBEq,i64,iD,bD,pB10,bV,h1,h2,h8,h9,hle]
  refine call_pure hW rfl rfl ?_
  simp only[zX,Nat.reduceShiftRight,Nat.reduceMod,Nat.reduceLT,Nat.reduceMul,Nat.reduceSub,Int.reduceToNat,Int.reduceNeg,Int.reduceLT,Int.reduceLE,Int.reduceEq,Nat.reduceEqDiff,Nat.reduceAdd,Nat.reduceLeDiff,reduceIte,reduceCtorEq,Nat.reduceBEq,i64,iD,bD,pB10,bV,h1,h2,h8,h9]
  refine call_pure ht rfl rfl ?_
  simp only[zX,Nat.reduceShiftRight,Nat.reduceMod,Nat.reduceLT,Nat.reduceMul,Nat.reduceSub,Int.reduceToNat,Int.reduceNeg,Int.reduceLT,Int.reduceLE,Int.reduceEq,Nat.reduceEqDiff,Nat.reduceAdd,Nat.reduceLeDiff,reduceIte,reduceCtorEq,Nat.reduceBEq,i64,iD,bD,pB10,bV,h1,h2,h8,h9]
  generalize timesR (outR w (n + 2) j k 1) w=A at *
  refine loop_rule (fun m e s=>∃i:Nat,m=j - i∧i≤j∧e 1=i64 n∧e 2=.rf 0 0 0 0∧e 8=i64 (timesN (n + 2) i A)∧e 9=i64 k∧e 10=i64 i∧s=[pB10 p])
   ⟨_,_,_,Cln.refl,0,rfl,by omega,?_,?_,?_,?_,?_,?_⟩ ?_ <;> (try simp only[zU,Nat.reduceBEq,Nat.reduceShiftRight,Nat.reduceMod,Nat.reduceEqDiff,reduceIte])
  ·exact h1
  ·exact h2
  ·rfl
  ·exact h9
  ·rfl
  ·rfl
  clear h1 h2 h8 h9
  rintro m e s ⟨i,rfl,hi,h1,h2,h8,h9,h10,rfl⟩
  rcases Nat.lt_or_ge i j with hlt2 | hge2
  ·have hli:(i:Int) < (j:Int):=by omega
   have ht2:=xtimes_ok (timesN (n + 2) i A) (n + 2) (hT i).1 hb (hT i).2 hbt
   simp only[i64] at ht2
   simp only[zX,Nat.reduceShiftRight,Nat.reduceMod,Nat.reduceLT,Nat.reduceMul,Nat.reduceSub,Int.reduceToNat,Int.reduceNeg,Int.reduceLT,Int.reduceLE,Int.reduceEq,Nat.reduceEqDiff,Nat.reduceAdd,Nat.reduceLeDiff,reduceIte,reduceCtorEq,Nat.reduceBEq,i64,iD,bD,pB10,bV,h1,h2,h8,h9,h10]
   refine call_pure hL rfl rfl ?_
   simp only[zX,Nat.reduceShiftRight,Nat.reduceMod,Nat.reduceLT,Nat.reduceMul,Nat.reduceSub,Int.reduceToNat,Int.reduceNeg,Int.reduceLT,Int.reduceLE,Int.reduceEq,Nat.reduceEqDiff,Nat.reduceAdd,Nat.reduceLeDiff,reduceIte,reduceCtorEq,Nat.reduceBEq,i64,iD,bD,pB10,bV,h1,h2,h8,h9,h10,wj,hli,wn]
   refine call_pure ht2 rfl rfl ?_
   simp only[zX,Nat.reduceShiftRight,Nat.reduceMod,Nat.reduceLT,Nat.reduceMul,Nat.reduceSub,Int.reduceToNat,Int.reduceNeg,Int.reduceLT,Int.reduceLE,Int.reduceEq,Nat.reduceEqDiff,Nat.reduceAdd,Nat.reduceLeDiff,reduceIte,reduceCtorEq,Nat.reduceBEq,i64,iD,bD,pB10,bV,h1,h2,h8,h9,h10]
   refine⟨j - (i + 1),_,_,by omega,Cln.refl,i + 1,rfl,hlt2,?_,?_,?_,?_,?_,rfl⟩ <;> (try simp only[zU,Nat.reduceBEq,Nat.reduceShiftRight,Nat.reduceMod,Nat.reduceEqDiff,reduceIte])
   ·exact h1
   ·exact h2
   ·rw[timesN_succ]
   ·exact h9
   ·rw[w64 _ (by omega)]; rfl
  ·have hie:i=j:=by omega
   subst hie
   simp only[zX,Nat.reduceShiftRight,Nat.reduceMod,Nat.reduceLT,Nat.reduceMul,Nat.reduceSub,Int.reduceToNat,Int.reduceNeg,Int.reduceLT,Int.reduceLE,Int.reduceEq,Nat.reduceEqDiff,Nat.reduceAdd,Nat.reduceLeDiff,reduceIte,reduceCtorEq,Nat.reduceBEq,i64,iD,bD,pB10,bV,h1,h2,h8,h9,h10]
   refine call_pure hL rfl rfl ?_
   simp only[zX,Nat.reduceShiftRight,Nat.reduceMod,Nat.reduceLT,Nat.reduceMul,Nat.reduceSub,Int.reduceToNat,Int.reduceNeg,Int.reduceLT,Int.reduceLE,Int.reduceEq,Nat.reduceEqDiff,Nat.reduceAdd,Nat.reduceLeDiff,reduceIte,reduceCtorEq,Nat.reduceBEq,i64,iD,bD,pB10,bV,h1,h2,h8,h9,h10,wj,Int.lt_irrefl]
   refine⟨N - (k + 1),_,_,by omega,Cln.refl,k + 1,rfl,hlt,?_,?_,?_,?_,rfl⟩ <;> (try simp only[zU,Nat.reduceBEq,Nat.reduceShiftRight,Nat.reduceMod,Nat.reduceEqDiff,reduceIte])
   ·exact h1
   ·exact h2
   ·rw[hos]; exact h8
   ·rw[w64 _ (by omega)]; rfl
 ·have hke:k=N:=by omega
  subst hke
  have hle:¬(k:Int)≤de:=by omega
  simp only[zX,Nat.reduceShiftRight,Nat.reduceMod,Nat.reduceLT,Nat.reduceMul,Nat.reduceSub,Int.reduceToNat,Int.reduceNeg,Int.reduceLT,Int.reduceLE,Int.reduceEq,Nat.reduceEqDiff,Nat.reduceAdd,Nat.reduceLeDiff,reduceIte,reduceCtorEq,Nat.reduceBEq,i64,iD,bD,pB10,bV,h1,h2,h8,h9]
  refine call_pure hD rfl rfl ?_
  by_cases c4:1099511627776 < outR w (n + 2) j k 1
  ·rw[if_pos c4]
   simp only[zX,Nat.reduceShiftRight,Nat.reduceMod,Nat.reduceLT,Nat.reduceMul,Nat.reduceSub,Int.reduceToNat,Int.reduceNeg,Int.reduceLT,Int.reduceLE,Int.reduceEq,Nat.reduceEqDiff,Nat.reduceAdd,Nat.reduceLeDiff,reduceIte,reduceCtorEq,Nat.reduceBEq,i64,iD,bD,h1,h2,h8,h9,hle,gt_iff_lt,c4]
  ·rw[if_neg c4]
   simp only[zX,Nat.reduceShiftRight,Nat.reduceMod,Nat.reduceLT,Nat.reduceMul,Nat.reduceSub,Int.reduceToNat,Int.reduceNeg,Int.reduceLT,Int.reduceLE,Int.reduceEq,Nat.reduceEqDiff,Nat.reduceAdd,Nat.reduceLeDiff,reduceIte,reduceCtorEq,Nat.reduceBEq,i64,iD,bD,h1,h2,h8,h9,hle,gt_iff_lt,c4]
theorem rOK_val:∀re:Re,re.every valB=true→rOK re:=by
 refine Re.ind (Q:=fun re=>re.every valB=true→rOK re) fun re ih h=>?_
 obtain⟨h1,h2⟩:=(Re.every_iff re).1 h
 have hk:∀l:List Re,(∀k∈l,k∈re.kids)→rOKs l:=by
  intro l
  induction l with
  | nil=>intro _; rw[rOKs]; trivial
  | cons x l ihl =>
   intro hl
   rw[rOKs]
   exact⟨ih x (hl x (by simp)) (h2 x (hl x (by simp))),ihl fun k hk=>hl k (by simp [hk])⟩
 have:=hk re.kids fun k h=>h
 revert this h1
 cases re
 intro h1 hks
 rw[rOK]
 exact⟨fun o=>(val_rnd h1 o).1,hks⟩
theorem bound_same (p:Pat) (n:Int):boundE p n=refBoundE p n:=by
 unfold boundE refBoundE depB
 by_cases c:validR p=0
 case neg=>rw[if_pos c,if_pos c]
 have hc:¬validR p≠0:=fun h=>h c
 rw[if_neg hc,if_neg hc]
 have hvb:=valid_val c
 rw[uses_eq p.re hvb]
 split
 ·rfl
 split
 ·rfl
 rename_i hn
 have h:=bound_law p.re (rOK_val p.re hvb) n (by omega)
 unfold refB
 unfold CapE at h
 rcases h with h | ⟨h1,h2⟩
 ·rw[h]
 ·rw[if_pos h1,if_pos h2]
end Go.Proofs.Ytpppfpaalcbggaa
