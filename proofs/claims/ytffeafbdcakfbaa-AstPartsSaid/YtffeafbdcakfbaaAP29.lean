/- A part of the proof (F119). -/
import Derived.Test.YtffeafbdcakfbaaAP19
import Derived.Test.YtffeafbdcakfbaaAP26
import Derived.Test.YtffeafbdcakfbaaAP28
import Derived.Test.YtffeafbdcakfbaaAP25
import Derived.Test.YtffeafbdcakfbaaAP27
import Derived.Test.YtffeafbdcakfbaaAP20
import Derived.Test.YtffeafbdcakfbaaAP23
import Derived.Test.YtffeafbdcakfbaaAP24
set_option linter.unusedSimpArgs false
set_option linter.unusedVariables false
set_option maxRecDepth 100000
set_option maxHeartbeats 80000000
set_option linter.unusedSimpArgs false
set_option linter.unusedVariables false
namespace Go.Proofs.Ytffeafbdcakfbaa
open Go.VL Go.Proofs.Try
theorem put_ok (re x:Re) (p:List Int) (hp:p.length≤5) (hf:re.fine=true) (hx:x.fine=true) (ho:okP re p):PutOK re x p:=by
 have:p.length=0∨p.length=1∨p.length=2∨p.length=3∨p.length=4∨p.length=5:=by omega
 rcases this with h | h | h | h | h | h
 ·exact put_ok0 re x p h hf hx ho
 ·exact put_ok1 re x p h hf hx ho
 ·exact put_ok2 re x p h hf hx ho
 ·exact put_ok3 re x p h hf hx ho
 ·exact put_ok4 re x p h hf hx ho
 ·exact put_ok5 re x p h hf hx ho
theorem astPartsL_ok (l:List Int) (hl:∀x∈l,I64 x) (m:List Int) (hm:∀x∈m,I64 x) (tat:Int) (ha:I64 tat):PureOK prog 4 [.d (intsD l),.d (intsD m),i64 tat] (bV true):=by
 have s1:=pat_small l 127 25 hl (by omega) (by omega)
 have s2:=pat_small m 127 8 hm (by omega) (by omega)
 have hp1:=pattern_ok l 127 25 hl (by omega) (by omega)
 have hp2:=pattern_ok m 127 8 hm (by omega) (by omega)
 have hpl:∀{pa:List Int},okP (patOf l 127 25).re pa→pa.length≤5:=fun h=>pat_path hl (by omega) (by omega) h
 rw[patV_C] at hp1 hp2
 generalize patOf l 127 25=p at *
 generalize patOf m 127 8=q at *
 have hfp:=small_fine (by omega) p.re s1.ev
 have hfq:=small_fine (by omega) q.re s2.ev
 have hzp:=s1.sz
 have hzq:=s2.sz
 have hall:=all_ok
 have hlv:=lives_ok
 have hpa:=astPaths_ok p.re hfp (by omega)
 have hsz:=size_ok p.re (by omega)
 have hpn:=p.re.paths_len
 have hpos:=p.re.size_pos
 have har:=around_ok tat p.re.size (by omega) ha
 obtain⟨r0,r1⟩:=around_in tat p.re.size (by omega) ha
 obtain⟨pa,hpa2⟩:∃pa,p.re.paths[(around tat p.re.size).toNat]?=some pa:=⟨_,List.getElem?_eq_getElem (by omega)⟩
 have hok:=rpaths_ok p.re pa (List.mem_of_getElem? hpa2)
 have hln:=hpl hok
 have hat1:=at_ok pa p.re hfp (by omega)
 have hfs:=fine_at pa p.re hfp hok
 have hpu1:=put_ok p.re (p.re.atR pa).1 pa hln hfp hfs hok
 have hpu2:=put_ok p.re q.re pa hln hfp hfq hok
 unfold PutOK at hpu1 hpu2
 rw[putR_ok _ pa p.re hok] at hpu1 hpu2
 rw[put_same pa p.re hok] at hpu1
 rw[atR_ok pa p.re hok] at hat1
 have hfy:=fine_put hfq pa p.re hfp hok
 have hat2:=at_ok pa (p.re.putR pa q.re).1 hfy (by omega)
 rw[(at_put q.re pa p.re hok).2] at hat2
 have hzy:=putP_size q.re pa p.re hok
 have hzs:=size_at pa p.re hok
 have hsz1:=size_ok (p.re.atR pa).1 (by omega)
 have hsz2:=size_ok (p.re.putR pa q.re).1 (by omega)
 have hsz3:=size_ok q.re (by omega)
 have hc1:=compare_ok p.re p.re hfp hfp
 have hc2:=compare_ok q.re q.re hfq hfq
 have hc3:=refCompare_ok p.re hfp p.re hfp
 rw[cmp_zero.2 rfl] at hc1 hc2 hc3
 generalize (p.re.putR pa q.re).1=y at *
 generalize (p.re.atR pa).1=x at *
 generalize hps:p.re.paths=ps at *
 generalize hk:around tat p.re.size=k at *
 have hne:¬((p.re.size:Int)=0):=by omega
 have hkl:k < (ps.length:Int):=by omega
 have w1:IntKind.i64.wrap ((p.re.size:Int) - x.size)=p.re.size - x.size:=w64 _ (by omega)
 have w2:IntKind.i64.wrap ((p.re.size:Int) - x.size + q.re.size)=p.re.size - x.size + q.re.size:=w64 _ (by omega)
 have hyz:(y.size:Int)=p.re.size - x.size + q.re.size:=by omega
 have hlp:(ps.length:Int)=p.re.size:=by omega
 simp only[i64] at *
 refine fn_ok func4 rfl ntmps4 results4 rfl 0 2097095 (by simp) (by simp) ?_
 simp only[zX,Nat.reduceShiftRight,Nat.reduceMod,Nat.reduceLT,Nat.reduceMul,Nat.reduceSub,Int.reduceToNat,Int.reduceNeg,Int.reduceLT,Int.reduceLE,Int.reduceEq,Nat.reduceEqDiff,Nat.reduceAdd,Nat.reduceLeDiff,reduceIte,reduceCtorEq,Nat.reduceBEq,i64]
 refine call_pure hall rfl rfl ?_
 simp only[zX,Nat.reduceShiftRight,Nat.reduceMod,Nat.reduceLT,Nat.reduceMul,Nat.reduceSub,Int.reduceToNat,Int.reduceNeg,Int.reduceLT,Int.reduceLE,Int.reduceEq,Nat.reduceEqDiff,Nat.reduceAdd,Nat.reduceLeDiff,reduceIte,reduceCtorEq,Nat.reduceBEq,i64]
 refine call_pure hp1 rfl (by simp only[refsV,refsV_go_d]) ?_
 simp only[zX,Nat.reduceShiftRight,Nat.reduceMod,Nat.reduceLT,Nat.reduceMul,Nat.reduceSub,Int.reduceToNat,Int.reduceNeg,Int.reduceLT,Int.reduceLE,Int.reduceEq,Nat.reduceEqDiff,Nat.reduceAdd,Nat.reduceLeDiff,reduceIte,reduceCtorEq,Nat.reduceBEq,i64,patC_len,take_patC,List.length_map]
 refine call_pure hall rfl rfl ?_
 simp only[zX,Nat.reduceShiftRight,Nat.reduceMod,Nat.reduceLT,Nat.reduceMul,Nat.reduceSub,Int.reduceToNat,Int.reduceNeg,Int.reduceLT,Int.reduceLE,Int.reduceEq,Nat.reduceEqDiff,Nat.reduceAdd,Nat.reduceLeDiff,reduceIte,reduceCtorEq,Nat.reduceBEq,i64,patC_len,take_patC,List.length_map]
 refine call_pure hp2 rfl (by simp only[refsV,refsV_go_d]) ?_
 simp only[zX,Nat.reduceShiftRight,Nat.reduceMod,Nat.reduceLT,Nat.reduceMul,Nat.reduceSub,Int.reduceToNat,Int.reduceNeg,Int.reduceLT,Int.reduceLE,Int.reduceEq,Nat.reduceEqDiff,Nat.reduceAdd,Nat.reduceLeDiff,reduceIte,reduceCtorEq,Nat.reduceBEq,i64,patC_len,take_patC,take8_patC,List.length_map]
 refine call_pure hpa (by simp only[refsV,refsV.go,refsV_reV,Bool.and_true,Bool.true_and]) (by simp only[refsV,refsV.go,refsV_reV,Bool.and_true,Bool.true_and]) ?_
 simp only[zX,Nat.reduceShiftRight,Nat.reduceMod,Nat.reduceLT,Nat.reduceMul,Nat.reduceSub,Int.reduceToNat,Int.reduceNeg,Int.reduceLT,Int.reduceLE,Int.reduceEq,Nat.reduceEqDiff,Nat.reduceAdd,Nat.reduceLeDiff,reduceIte,reduceCtorEq,Nat.reduceBEq,i64,pathsD,pathD,patC_len,take_patC,take8_patC,take_cells,Re.cells_len,hlp,hpn,hne,hpa2,r0,r1,hkl,w1,w2,hyz,List.length_map,bV,beq_self_eq_true,reV_fold]
 refine call_pure hsz (by simp only[refsV,refsV.go,refsV_reV,Bool.and_true,Bool.true_and]) (by simp only[refsV,refsV.go,refsV_reV,Bool.and_true,Bool.true_and]) ?_
 simp only[zX,Nat.reduceShiftRight,Nat.reduceMod,Nat.reduceLT,Nat.reduceMul,Nat.reduceSub,Int.reduceToNat,Int.reduceNeg,Int.reduceLT,Int.reduceLE,Int.reduceEq,Nat.reduceEqDiff,Nat.reduceAdd,Nat.reduceLeDiff,reduceIte,reduceCtorEq,Nat.reduceBEq,i64,pathsD,pathD,patC_len,take_patC,take8_patC,take_cells,Re.cells_len,hlp,hpn,hne,hpa2,r0,r1,hkl,w1,w2,hyz,List.length_map,bV,beq_self_eq_true,reV_fold]
 refine call_pure har (by simp only[refsV,refsV.go,refsV_reV,Bool.and_true,Bool.true_and]) (by simp only[refsV,refsV.go,refsV_reV,Bool.and_true,Bool.true_and]) ?_
 simp only[zX,Nat.reduceShiftRight,Nat.reduceMod,Nat.reduceLT,Nat.reduceMul,Nat.reduceSub,Int.reduceToNat,Int.reduceNeg,Int.reduceLT,Int.reduceLE,Int.reduceEq,Nat.reduceEqDiff,Nat.reduceAdd,Nat.reduceLeDiff,reduceIte,reduceCtorEq,Nat.reduceBEq,i64,pathsD,pathD,patC_len,take_patC,take8_patC,take_cells,Re.cells_len,hlp,hpn,hne,hpa2,r0,r1,hkl,w1,w2,hyz,List.length_map,bV,beq_self_eq_true,reV_fold]
 refine call_pure hat1 (by simp only[refsV,refsV.go,refsV_reV,Bool.and_true,Bool.true_and]) (by simp only[refsV,refsV.go,refsV_reV,Bool.and_true,Bool.true_and]) ?_
 simp only[zX,Nat.reduceShiftRight,Nat.reduceMod,Nat.reduceLT,Nat.reduceMul,Nat.reduceSub,Int.reduceToNat,Int.reduceNeg,Int.reduceLT,Int.reduceLE,Int.reduceEq,Nat.reduceEqDiff,Nat.reduceAdd,Nat.reduceLeDiff,reduceIte,reduceCtorEq,Nat.reduceBEq,i64,pathsD,pathD,patC_len,take_patC,take8_patC,take_cells,Re.cells_len,hlp,hpn,hne,hpa2,r0,r1,hkl,w1,w2,hyz,List.length_map,bV,beq_self_eq_true,reV_fold]
 refine call_pure hpu1 (by simp only[refsV,refsV.go,refsV_reV,Bool.and_true,Bool.true_and]) (by simp only[refsV,refsV.go,refsV_reV,Bool.and_true,Bool.true_and]) ?_
 simp only[zX,Nat.reduceShiftRight,Nat.reduceMod,Nat.reduceLT,Nat.reduceMul,Nat.reduceSub,Int.reduceToNat,Int.reduceNeg,Int.reduceLT,Int.reduceLE,Int.reduceEq,Nat.reduceEqDiff,Nat.reduceAdd,Nat.reduceLeDiff,reduceIte,reduceCtorEq,Nat.reduceBEq,i64,pathsD,pathD,patC_len,take_patC,take8_patC,take_cells,Re.cells_len,hlp,hpn,hne,hpa2,r0,r1,hkl,w1,w2,hyz,List.length_map,bV,beq_self_eq_true,reV_fold]
 refine call_pure hpu2 (by simp only[refsV,refsV.go,refsV_reV,Bool.and_true,Bool.true_and]) (by simp only[refsV,refsV.go,refsV_reV,Bool.and_true,Bool.true_and]) ?_
 simp only[zX,Nat.reduceShiftRight,Nat.reduceMod,Nat.reduceLT,Nat.reduceMul,Nat.reduceSub,Int.reduceToNat,Int.reduceNeg,Int.reduceLT,Int.reduceLE,Int.reduceEq,Nat.reduceEqDiff,Nat.reduceAdd,Nat.reduceLeDiff,reduceIte,reduceCtorEq,Nat.reduceBEq,i64,pathsD,pathD,patC_len,take_patC,take8_patC,take_cells,Re.cells_len,hlp,hpn,hne,hpa2,r0,r1,hkl,w1,w2,hyz,List.length_map,bV,beq_self_eq_true,reV_fold]
 refine call_pure hat2 (by simp only[refsV,refsV.go,refsV_reV,Bool.and_true,Bool.true_and]) (by simp only[refsV,refsV.go,refsV_reV,Bool.and_true,Bool.true_and]) ?_
 simp only[zX,Nat.reduceShiftRight,Nat.reduceMod,Nat.reduceLT,Nat.reduceMul,Nat.reduceSub,Int.reduceToNat,Int.reduceNeg,Int.reduceLT,Int.reduceLE,Int.reduceEq,Nat.reduceEqDiff,Nat.reduceAdd,Nat.reduceLeDiff,reduceIte,reduceCtorEq,Nat.reduceBEq,i64,pathsD,pathD,patC_len,take_patC,take8_patC,take_cells,Re.cells_len,hlp,hpn,hne,hpa2,r0,r1,hkl,w1,w2,hyz,List.length_map,bV,beq_self_eq_true,reV_fold]
 refine call_pure hall rfl rfl ?_
 simp only[zX,Nat.reduceShiftRight,Nat.reduceMod,Nat.reduceLT,Nat.reduceMul,Nat.reduceSub,Int.reduceToNat,Int.reduceNeg,Int.reduceLT,Int.reduceLE,Int.reduceEq,Nat.reduceEqDiff,Nat.reduceAdd,Nat.reduceLeDiff,reduceIte,reduceCtorEq,Nat.reduceBEq,i64,pathsD,pathD,patC_len,take_patC,take8_patC,take_cells,Re.cells_len,hlp,hpn,hne,hpa2,r0,r1,hkl,w1,w2,hyz,List.length_map,bV,beq_self_eq_true,reV_fold]
 refine call_pure hp1 rfl (by simp only[refsV,refsV_go_d]) ?_
 simp only[zX,Nat.reduceShiftRight,Nat.reduceMod,Nat.reduceLT,Nat.reduceMul,Nat.reduceSub,Int.reduceToNat,Int.reduceNeg,Int.reduceLT,Int.reduceLE,Int.reduceEq,Nat.reduceEqDiff,Nat.reduceAdd,Nat.reduceLeDiff,reduceIte,reduceCtorEq,Nat.reduceBEq,i64,pathsD,pathD,patC_len,take_patC,take8_patC,take_cells,Re.cells_len,hlp,hpn,hne,hpa2,r0,r1,hkl,w1,w2,hyz,List.length_map,bV,beq_self_eq_true,reV_fold]
 refine draw_c mix [] [] (by rfl) ?_
 simp only[zX,Nat.reduceShiftRight,Nat.reduceMod,Nat.reduceLT,Nat.reduceMul,Nat.reduceSub,Int.reduceToNat,Int.reduceNeg,Int.reduceLT,Int.reduceLE,Int.reduceEq,Nat.reduceEqDiff,Nat.reduceAdd,Nat.reduceLeDiff,reduceIte,reduceCtorEq,Nat.reduceBEq,i64,patC_len,take_patC,take8_patC,take_cells,Re.cells_len,hne,w1,w2,hyz,List.length_map,bV,beq_self_eq_true,reV_fold]
 refine callC_pure hc1 (by simp only[refsV,refsV.go,refsV_reV,Bool.and_true,Bool.true_and]) rfl ?_
 simp only[zX,Nat.reduceShiftRight,Nat.reduceMod,Nat.reduceLT,Nat.reduceMul,Nat.reduceSub,Int.reduceToNat,Int.reduceNeg,Int.reduceLT,Int.reduceLE,Int.reduceEq,Nat.reduceEqDiff,Nat.reduceAdd,Nat.reduceLeDiff,reduceIte,reduceCtorEq,Nat.reduceBEq,i64,patC_len,take_patC,take8_patC,take_cells,Re.cells_len,hne,w1,w2,hyz,List.length_map,bV,beq_self_eq_true,reV_fold]
 refine callC_pure hc2 (by simp only[refsV,refsV.go,refsV_reV,Bool.and_true,Bool.true_and]) rfl ?_
 simp only[zX,Nat.reduceShiftRight,Nat.reduceMod,Nat.reduceLT,Nat.reduceMul,Nat.reduceSub,Int.reduceToNat,Int.reduceNeg,Int.reduceLT,Int.reduceLE,Int.reduceEq,Nat.reduceEqDiff,Nat.reduceAdd,Nat.reduceLeDiff,reduceIte,reduceCtorEq,Nat.reduceBEq,i64,patC_len,take_patC,take8_patC,take_cells,Re.cells_len,hne,w1,w2,hyz,List.length_map,bV,beq_self_eq_true,reV_fold]
 refine callC_pure hsz2 (by simp only[refsV,refsV.go,refsV_reV,Bool.and_true,Bool.true_and]) rfl ?_
 simp only[zX,Nat.reduceShiftRight,Nat.reduceMod,Nat.reduceLT,Nat.reduceMul,Nat.reduceSub,Int.reduceToNat,Int.reduceNeg,Int.reduceLT,Int.reduceLE,Int.reduceEq,Nat.reduceEqDiff,Nat.reduceAdd,Nat.reduceLeDiff,reduceIte,reduceCtorEq,Nat.reduceBEq,i64,patC_len,take_patC,take8_patC,take_cells,Re.cells_len,hne,w1,w2,hyz,List.length_map,bV,beq_self_eq_true,reV_fold]
 refine callC_pure hsz1 (by simp only[refsV,refsV.go,refsV_reV,Bool.and_true,Bool.true_and]) rfl ?_
 simp only[zX,Nat.reduceShiftRight,Nat.reduceMod,Nat.reduceLT,Nat.reduceMul,Nat.reduceSub,Int.reduceToNat,Int.reduceNeg,Int.reduceLT,Int.reduceLE,Int.reduceEq,Nat.reduceEqDiff,Nat.reduceAdd,Nat.reduceLeDiff,reduceIte,reduceCtorEq,Nat.reduceBEq,i64,patC_len,take_patC,take8_patC,take_cells,Re.cells_len,hne,w1,w2,hyz,List.length_map,bV,beq_self_eq_true,reV_fold]
 refine callC_pure hsz3 (by simp only[refsV,refsV.go,refsV_reV,Bool.and_true,Bool.true_and]) rfl ?_
 simp only[zX,Nat.reduceShiftRight,Nat.reduceMod,Nat.reduceLT,Nat.reduceMul,Nat.reduceSub,Int.reduceToNat,Int.reduceNeg,Int.reduceLT,Int.reduceLE,Int.reduceEq,Nat.reduceEqDiff,Nat.reduceAdd,Nat.reduceLeDiff,reduceIte,reduceCtorEq,Nat.reduceBEq,i64,patC_len,take_patC,take8_patC,take_cells,Re.cells_len,hne,w1,w2,hyz,List.length_map,bV,beq_self_eq_true,reV_fold]
 refine callC_pure hc3 (by simp only[refsV,refsV.go,refsV_reV,Bool.and_true,Bool.true_and]) rfl ?_
 simp only[zX,Nat.reduceShiftRight,Nat.reduceMod,Nat.reduceLT,Nat.reduceMul,Nat.reduceSub,Int.reduceToNat,Int.reduceNeg,Int.reduceLT,Int.reduceLE,Int.reduceEq,Nat.reduceEqDiff,Nat.reduceAdd,Nat.reduceLeDiff,reduceIte,reduceCtorEq,Nat.reduceBEq,i64,patC_len,take_patC,take8_patC,take_cells,Re.cells_len,hne,w1,w2,hyz,List.length_map,bV,beq_self_eq_true,reV_fold]
 refine callC_pure hlv (by simp only[refsV,refsV.go,refsV_reV,Bool.and_true,Bool.true_and]) rfl ?_
 simp only[zX,Nat.reduceShiftRight,Nat.reduceMod,Nat.reduceLT,Nat.reduceMul,Nat.reduceSub,Int.reduceToNat,Int.reduceNeg,Int.reduceLT,Int.reduceLE,Int.reduceEq,Nat.reduceEqDiff,Nat.reduceAdd,Nat.reduceLeDiff,reduceIte,reduceCtorEq,Nat.reduceBEq,i64,patC_len,take_patC,take8_patC,take_cells,Re.cells_len,hne,w1,w2,hyz,List.length_map,bV,beq_self_eq_true,reV_fold]
end Go.Proofs.Ytffeafbdcakfbaa
