/- A part of the proof (F120). -/
import Derived.Test.YtffeafbdcakfbaaAQ5
import Derived.Test.YtffeafbdcakfbaaAQ29
set_option linter.unusedSimpArgs false
set_option linter.unusedVariables false
set_option maxRecDepth 100000
set_option maxHeartbeats 80000000
set_option linter.unusedSimpArgs false
set_option linter.unusedVariables false
namespace Go.Proofs.Ytffeafbdcakfbaa
open Go.VL Go.Proofs.Try
theorem zero_fine:zeroRe.fine=true:=by decide
structure TryOK (re x:Re) (t:List Int):Prop where
 at1:PureOK prog 13 [reV re,.d (intsD t)] (.tu [reV (re.atR t).1,i64 (re.atR t).2])
 at2:PureOK prog 14 [reV re,.d (intsD t)] (.tu [reV (re.atR t).1,i64 (re.atR t).2])
 put1:PureOK prog 15 [reV re,.d (intsD t),reV x] (.tu [reV (re.putR t x).1,i64 (re.putR t x).2])
 put2:PureOK prog 16 [reV re,.d (intsD t),reV x] (.tu [reV (re.putR t x).1,i64 (re.putR t x).2])
 cmp1:PureOK prog 17 [reV (re.atR t).1,reV (re.atR t).1] (i64 0)
 cmp2:PureOK prog 17 [reV (re.putR t x).1,reV (re.putR t x).1] (i64 0)
theorem try_ok {re x:Re} {t:List Int} (hf:re.fine=true) (hx:x.fine=true) (ht:t.length≤1000) (hs:okP re t→t.length≤5):TryOK re x t:=by
 have key:∀y:Re,y.fine=true→PureOK prog 17 [reV y,reV y] (i64 0):=by
  intro y hy
  have:=refCompare_ok y hy y hy
  rwa [cmp_zero.2 rfl] at this
 by_cases ho:okP re t
 ·exact⟨at_ok t re hf (by omega),refAt_ok t re hf,put_ok re x t (hs ho) hf hx ho,refPut_ok x t re hf,key _ (fine_at t re hf ho),key _ (fine_put hx t re hf ho)⟩
 ·exact⟨at_ok t re hf (by omega),refAt_ok t re hf,put_bad re x t hf (by omega) ho,refPut_ok x t re hf,key _ (by rw[atR_bad t re ho]; exact zero_fine),key _ (by rw[putR_bad x t re ho]; exact zero_fine)⟩
theorem clean_d (lim:Nat) (s:List VL.Obj) (c:List D):(c.map V.d).map (cleanV lim s)=c.map V.d:=by
 rw[List.map_map]
 exact List.map_congr_left fun x _=>rfl
theorem frz_ownP {n lim id g k:Nat} {s:List VL.Obj} {els:List (List D)} (ho:s[id]?=some ⟨g,true,1,els.map fun c=>c.map V.d⟩) (hl:lim≤id) (hk:k=els.length):frzD (n + 1) lim s (.so id g 0 k)=some (.sl els):=by
 subst hk
 simp only[frzD,ho,true_and]
 rw[if_pos ⟨by simp,.inl hl⟩,List.drop_zero,List.take_of_length_le (by simp),mapM_frzE]
 rfl
theorem frzD_fu (n lim:Nat) (s:List VL.Obj) (els:List (List D)):frzD n lim s (.fu els)=some (.sl els):=by cases n <;> rfl
theorem astPathsL_ok (l:List Int) (hl:∀x∈l,I64 x) (m:List Int) (hm:∀x∈m,I64 x) (tat by':Int) (ha:I64 tat) (hb:I64 by'):PureOK prog 3 [.d (intsD l),.d (intsD m),i64 tat,i64 by'] (bV true):=by
 have s1:=pat_small l 127 30 hl (by omega) (by omega)
 have s2:=pat_small m 127 5 hm (by omega) (by omega)
 have hp1:=pattern_ok l 127 30 hl (by omega) (by omega)
 have hp2:=pattern_ok m 127 5 hm (by omega) (by omega)
 have hpl:∀{pa:List Int},okP (patOf l 127 30).re pa→pa.length≤5:=fun h=>pat_path hl (by omega) (by omega) h
 rw[patV_C] at hp1 hp2
 generalize patOf l 127 30=p at *
 generalize patOf m 127 5=q at *
 have hfp:=small_fine (by omega) p.re s1.ev
 have hfq:=small_fine (by omega) q.re s2.ev
 have hzp:=s1.sz
 have hall:=all_ok
 have hlv:=lives_ok
 have hpa:=astPaths_ok p.re hfp (by omega)
 have hrp:=refPaths_ok p.re (by omega)
 have hpn:=p.re.paths_len
 have hpos:=p.re.size_pos
 have hsh:=p.re.paths_short
 have hpok:=rpaths_ok p.re
 generalize p.re.paths=ps at *
 have har:=around_ok tat ps.length (by omega) ha
 have har3:=around_ok by' 3 (by omega) hb
 obtain⟨r0,r1⟩:=around_in tat ps.length (by omega) ha
 generalize around tat ps.length=k at *
 generalize around by' 3=b3 at *
 obtain⟨pa,hpa2⟩:∃pa,ps[k.toNat]?=some pa:=⟨_,List.getElem?_eq_getElem (by omega)⟩
 have hpal:=hpl (hpok pa (List.mem_of_getElem? hpa2))
 obtain⟨T,hT⟩:∃T:List (List Int),T=[pa,pa++[by'],pa++[b3,0],[-1]]:=⟨_,rfl⟩
 have hTl:T.length=4:=by rw[hT]; rfl
 have hTok:∀t∈T,TryOK p.re q.re t:=by
  intro t ht
  refine try_ok hfp hfq ?_ (fun ho=>hpl ho)
  rw[hT] at ht
  simp only[List.mem_cons,List.not_mem_nil,or_false] at ht
  rcases ht with rfl | rfl | rfl | rfl <;> first | omega | (simp; done) | (simp; omega)
 simp only[i64] at hall hpa hrp har har3
 refine fn_ok func3 rfl ntmps3 results3 rfl 0 33554191 (by simp) (by simp) ?_
 simp only[zX,Nat.reduceShiftRight,Nat.reduceMod,Nat.reduceLT,Nat.reduceMul,Nat.reduceSub,Int.reduceToNat,Int.reduceNeg,Int.reduceLT,Int.reduceLE,Int.reduceEq,Nat.reduceEqDiff,Nat.reduceAdd,Nat.reduceLeDiff,reduceIte,reduceCtorEq,Nat.reduceBEq,i64]
 refine call_pure hall rfl rfl ?_
 simp only[zX,Nat.reduceShiftRight,Nat.reduceMod,Nat.reduceLT,Nat.reduceMul,Nat.reduceSub,Int.reduceToNat,Int.reduceNeg,Int.reduceLT,Int.reduceLE,Int.reduceEq,Nat.reduceEqDiff,Nat.reduceAdd,Nat.reduceLeDiff,reduceIte,reduceCtorEq,Nat.reduceBEq,i64]
 refine call_pure hp1 rfl (by simp only[refsV,refsV_go_d]) ?_
 simp only[zX,Nat.reduceShiftRight,Nat.reduceMod,Nat.reduceLT,Nat.reduceMul,Nat.reduceSub,Int.reduceToNat,Int.reduceNeg,Int.reduceLT,Int.reduceLE,Int.reduceEq,Nat.reduceEqDiff,Nat.reduceAdd,Nat.reduceLeDiff,reduceIte,reduceCtorEq,Nat.reduceBEq,i64,patC_len,take_patC,List.length_map]
 refine call_pure hall rfl rfl ?_
 simp only[zX,Nat.reduceShiftRight,Nat.reduceMod,Nat.reduceLT,Nat.reduceMul,Nat.reduceSub,Int.reduceToNat,Int.reduceNeg,Int.reduceLT,Int.reduceLE,Int.reduceEq,Nat.reduceEqDiff,Nat.reduceAdd,Nat.reduceLeDiff,reduceIte,reduceCtorEq,Nat.reduceBEq,i64,patC_len,take_patC,List.length_map]
 refine call_pure hp2 rfl (by simp only[refsV,refsV_go_d]) ?_
 simp only[zX,Nat.reduceShiftRight,Nat.reduceMod,Nat.reduceLT,Nat.reduceMul,Nat.reduceSub,Int.reduceToNat,Int.reduceNeg,Int.reduceLT,Int.reduceLE,Int.reduceEq,Nat.reduceEqDiff,Nat.reduceAdd,Nat.reduceLeDiff,reduceIte,reduceCtorEq,Nat.reduceBEq,i64,patC_len,take_patC,take8_patC,List.length_map]
 refine call_pure hpa (by simp only[refsV,refsV.go,refsV_reV,Bool.and_true,Bool.true_and]) rfl ?_
 simp only[zX,Nat.reduceShiftRight,Nat.reduceMod,Nat.reduceLT,Nat.reduceMul,Nat.reduceSub,Int.reduceToNat,Int.reduceNeg,Int.reduceLT,Int.reduceLE,Int.reduceEq,Nat.reduceEqDiff,Nat.reduceAdd,Nat.reduceLeDiff,reduceIte,reduceCtorEq,Nat.reduceBEq,i64,patC_len,take_patC,take8_patC,List.length_map]
 refine call_pure hrp (by simp only[refsV,refsV.go,refsV_reV,Bool.and_true,Bool.true_and]) rfl ?_
 simp only[zX,Nat.reduceShiftRight,Nat.reduceMod,Nat.reduceLT,Nat.reduceMul,Nat.reduceSub,Int.reduceToNat,Int.reduceNeg,Int.reduceLT,Int.reduceLE,Int.reduceEq,Nat.reduceEqDiff,Nat.reduceAdd,Nat.reduceLeDiff,reduceIte,reduceCtorEq,Nat.reduceBEq,i64,pathsD,patC_len,take_patC,take8_patC,List.length_map]
 refine loop_rule (fun n e s=>∃i:Nat,n=ps.length - i∧i≤ps.length∧e 2=i64 tat∧e 3=i64 by'∧e 9=.rf 0 0 0 0∧e 10=.rf 1 0 0 0∧e 11=.d (pathsD ps)∧e 12=.d (pathsD ps)∧e 13=i64 i∧s=[⟨0,true,10,[(patC p).map V.d]⟩,⟨0,true,10,[(patC q).map V.d]⟩])
  ⟨_,_,_,Cln.refl,0,rfl,by omega,rfl,rfl,rfl,rfl,rfl,rfl,rfl,rfl⟩ ?_
 rintro n e s ⟨i,rfl,hi,h2,h3,h9,h10,h11,h12,h13,rfl⟩
 rcases Nat.lt_or_ge i ps.length with hlt | hge
 ·obtain⟨t,ht⟩:∃t,ps[i]?=some t:=⟨_,List.getElem?_eq_getElem hlt⟩
  have hsi:=sameInts_ok t t (by have:=hsh t (List.mem_of_getElem? ht); omega)
  rw[decide_eq_true rfl] at hsi
  simp only[bV] at hsi
  simp only[zX,Nat.reduceShiftRight,Nat.reduceMod,Nat.reduceLT,Nat.reduceMul,Nat.reduceSub,Int.reduceToNat,Int.reduceNeg,Int.reduceLT,Int.reduceLE,Int.reduceEq,Nat.reduceEqDiff,Nat.reduceAdd,Nat.reduceLeDiff,reduceIte,reduceCtorEq,Nat.reduceBEq,i64,pathsD,pathD,h2,h3,h9,h10,h11,h12,h13,hlt,List.length_map]
  refine draw_c mix [] [] (by rfl) ?_
  simp only[zX,Nat.reduceShiftRight,Nat.reduceMod,Nat.reduceLT,Nat.reduceMul,Nat.reduceSub,Int.reduceToNat,Int.reduceNeg,Int.reduceLT,Int.reduceLE,Int.reduceEq,Nat.reduceEqDiff,Nat.reduceAdd,Nat.reduceLeDiff,reduceIte,reduceCtorEq,Nat.reduceBEq,i64,pathsD,pathD,h2,h3,h9,h10,h11,h12,h13,hlt,ht,List.length_map]
  refine callC_pure hsi rfl rfl ?_
  simp only[zX,Nat.reduceShiftRight,Nat.reduceMod,Nat.reduceLT,Nat.reduceMul,Nat.reduceSub,Int.reduceToNat,Int.reduceNeg,Int.reduceLT,Int.reduceLE,Int.reduceEq,Nat.reduceEqDiff,Nat.reduceAdd,Nat.reduceLeDiff,reduceIte,reduceCtorEq,Nat.reduceBEq,i64,pathsD,pathD,h2,h3,h9,h10,h11,h12,h13,hlt,ht,List.length_map,Bool.not_true]
  refine⟨ps.length - (i + 1),_,_,by omega,Cln.refl,i + 1,rfl,hlt,?_,?_,?_,?_,?_,?_,?_,rfl⟩ <;> (try simp only[zU,Nat.reduceBEq,Nat.reduceShiftRight,Nat.reduceMod,Nat.reduceEqDiff,reduceIte])
  ·exact h2
  ·exact h3
  ·exact h9
  ·exact h10
  ·exact h11
  ·exact h12
  ·rw[w64 _ (by omega)]; rfl
 have hie:i=ps.length:=by omega
 subst hie
 simp only[zX,Nat.reduceShiftRight,Nat.reduceMod,Nat.reduceLT,Nat.reduceMul,Nat.reduceSub,Int.reduceToNat,Int.reduceNeg,Int.reduceLT,Int.reduceLE,Int.reduceEq,Nat.reduceEqDiff,Nat.reduceAdd,Nat.reduceLeDiff,reduceIte,reduceCtorEq,Nat.reduceBEq,i64,pathsD,h2,h3,h9,h10,h11,h12,h13,Nat.lt_irrefl,List.length_map]
 refine call_pure har rfl rfl ?_
 simp only[zX,Nat.reduceShiftRight,Nat.reduceMod,Nat.reduceLT,Nat.reduceMul,Nat.reduceSub,Int.reduceToNat,Int.reduceNeg,Int.reduceLT,Int.reduceLE,Int.reduceEq,Nat.reduceEqDiff,Nat.reduceAdd,Nat.reduceLeDiff,reduceIte,reduceCtorEq,Nat.reduceBEq,i64,pathsD,h2,h3,h9,h10,h11,h12,h13,List.length_map]
 refine draw_first Cln0.reserve ?_
 refine draw_first Cln0.reserve ?_
 refine draw_first Cln0.reserve ?_
 refine draw_c mix [] [(9,[2],[2]),(12,[2],[2]),(18,[3],[3]),(22,[3],[3]),(24,[4],[4])] (by rfl) ?_
 simp only[zX,Nat.reduceShiftRight,Nat.reduceMod,Nat.reduceLT,Nat.reduceMul,Nat.reduceSub,Int.reduceToNat,Int.reduceNeg,Int.reduceLT,Int.reduceLE,Int.reduceEq,Nat.reduceEqDiff,Nat.reduceAdd,Nat.reduceLeDiff,reduceIte,reduceCtorEq,Nat.reduceBEq,i64,iD,intsD,pathsD,pathD,h2,h3,h9,h10,h11,h12,h13,hpa2,r0,r1,hole,fuAt,bsAt.eq_1,List.length_map]
 have d1:∀e∈pa.map (fun x=>[D.sc (Value.int IntKind.i64 x)]),e.length=1:=by
  intro e he
  obtain⟨y,_,rfl⟩:=List.mem_map.1 he
  rfl
 refine⟨⟨by omega,d1⟩,rfl,fun e he=>by rw[List.mem_singleton.1 he]; rfl,⟨by omega,by omega⟩,⟨by omega,d1⟩,?_⟩
 refine callC_pure har3 rfl rfl ?_
 simp only[zX,Nat.reduceShiftRight,Nat.reduceMod,Nat.reduceLT,Nat.reduceMul,Nat.reduceSub,Int.reduceToNat,Int.reduceNeg,Int.reduceLT,Int.reduceLE,Int.reduceEq,Nat.reduceEqDiff,Nat.reduceAdd,Nat.reduceLeDiff,reduceIte,reduceCtorEq,Nat.reduceBEq,i64,iD,intsD,pathsD,pathD,h2,h3,h9,h10,h11,h12,h13,hpa2,r0,r1,hole,fuAt,bsAt.eq_1,List.length_map]
 refine⟨rfl,?_,⟨by omega,by omega⟩,⟨rfl,?_⟩,?_⟩
 ·intro e he
  simp only[List.mem_cons,List.not_mem_nil,or_false] at he
  rcases he with rfl | rfl <;> rfl
 ·intro e he x hx
  simp only[List.mem_cons,List.not_mem_nil,or_false] at he
  rcases he with rfl | rfl | rfl | rfl <;> (rw[List.mem_singleton.1 hx]; rfl)
 have eA:List.take pa.length (List.map (fun x=>List.map V.d x) (List.map (fun x=>[D.sc (Value.int IntKind.i64 x)]) pa))++[[V.d (D.sc (Value.int IntKind.i64 by'))]]=((pa++[by']).map fun x=>[iD x]).map fun c=>c.map V.d:=by
  rw[List.take_of_length_le (by simp),List.map_append,List.map_append]; rfl
 have eB:List.take pa.length (List.map (fun x=>List.map V.d x) (List.map (fun x=>[D.sc (Value.int IntKind.i64 x)]) pa))++[[V.d (D.sc (Value.int IntKind.i64 b3))],[V.d (D.sc (Value.int IntKind.i64 0))]]=((pa++[b3,0]).map fun x=>[iD x]).map fun c=>c.map V.d:=by
  rw[List.take_of_length_le (by simp),List.map_append,List.map_append]; rfl
 rw[eA,eB]
 obtain⟨S,hS⟩:∃S:List VL.Obj,S=[⟨0,true,10,[(patC p).map V.d]⟩,⟨0,true,10,[(patC q).map V.d]⟩,⟨2,true,1,((pa++[by']).map fun x=>[iD x]).map fun c=>c.map V.d⟩,⟨2,true,1,((pa++[b3,0]).map fun x=>[iD x]).map fun c=>c.map V.d⟩,
   ⟨1,true,1,[[V.d (D.sl (List.map (fun x=>[D.sc (Value.int IntKind.i64 x)]) pa))],[V.so 2 2 0 (pa.length + 1)],[V.so 3 2 0 (pa.length + 2)],[V.fu [[D.sc (Value.int IntKind.i64 (-1))]]]]⟩]:=⟨_,rfl⟩
 rw[← hS]
 have f2:frzD 7 2 S (.so 2 2 0 (pa.length + 1))=some (intsD (pa++[by'])):=frz_ownP (n:=6) (by rw[hS]; rfl) (by omega) (by simp)
 have f3:frzD 7 2 S (.so 3 2 0 (pa.length + 2))=some (intsD (pa++[b3,0])):=frz_ownP (n:=6) (by rw[hS]; rfl) (by omega) (by simp)
 have h4:S[4]?=some ⟨1,true,1,[[V.d (D.sl (List.map (fun x=>[D.sc (Value.int IntKind.i64 x)]) pa))],[V.so 2 2 0 (pa.length + 1)],[V.so 3 2 0 (pa.length + 2)],[V.fu [[D.sc (Value.int IntKind.i64 (-1))]]]]⟩:=by rw[hS]; rfl
 have f4:frzD 8 2 S (.so 4 1 0 4)=some (pathsD T):=by
  unfold frzD
  simp only[h4,true_and,List.length_cons,List.length_nil,Nat.zero_add,Nat.reduceAdd,Nat.reduceLeDiff,Nat.le_refl,true_or,if_true,List.drop_zero,List.take_succ_cons,List.take_zero,List.mapM_cons,List.mapM_nil,f2,f3,frzD_d,frzD_fu,Option.bind_eq_bind,Option.bind_some,Option.pure_def,Option.map_some]
  rw[hT]
  rfl
 refine loop_rule (fun n e s=>∃i:Nat,n=4 - i∧i≤4∧e 9=.rf 0 0 0 0∧e 10=.rf 1 0 0 0∧e 15=.d (pathsD T)∧e 16=i64 i∧s=[⟨0,true,10,[(patC p).map V.d]⟩,⟨0,true,10,[(patC q).map V.d]⟩])
  ⟨_,_,_,Cln.drop 2 (by omega) [9,10,15,16],0,rfl,by omega,?_,?_,?_,?_,?_⟩ ?_
 ·rw[cleanE,if_pos (by rfl)]
  simp only[updE,Nat.reduceEqDiff,if_false,reduceIte,trimE_app,Nat.reduceShiftRight,Nat.reduceMod,if_true]
  rw[h9,cleanV,frzV_keepRf (o:=⟨0,true,10,[(patC p).map V.d]⟩) (by rw[hS]; rfl) rfl (by omega)]
  rfl
 ·rw[cleanE,if_pos (by rfl)]
  simp only[updE,Nat.reduceEqDiff,if_false,reduceIte,trimE_app,Nat.reduceShiftRight,Nat.reduceMod,if_true]
  rw[h10,cleanV,frzV_keepRf (o:=⟨0,true,10,[(patC q).map V.d]⟩) (by rw[hS]; rfl) rfl (by omega)]
  rfl
 ·rw[cleanE,if_pos (by rfl)]
  simp only[updE,Nat.reduceEqDiff,if_false,reduceIte,trimE_app,Nat.reduceShiftRight,Nat.reduceMod,if_true]
  rw[cleanV,frzV,f4]
  rfl
 ·rw[cleanE,if_pos (by rfl)]
  simp only[updE,Nat.reduceEqDiff,if_false,reduceIte,trimE_app,Nat.reduceShiftRight,Nat.reduceMod,if_true]
  rfl
 ·rw[hS]
  simp only[cleanS,List.take_succ_cons,List.take_zero,List.map_cons,List.map_nil,clean_d]
 clear eA eB f2 f3 f4 h4 hS
 clear h2 h3 h9 h10 h11 h12 h13
 rintro n e s ⟨i,rfl,hi,h9,h10,h15,h16,rfl⟩
 rcases Nat.lt_or_ge i 4 with hlt | hge
 rotate_left
 ·have hie:i=4:=by omega
  subst hie
  simp only[zX,Nat.reduceShiftRight,Nat.reduceMod,Nat.reduceLT,Nat.reduceMul,Nat.reduceSub,Int.reduceToNat,Int.reduceNeg,Int.reduceLT,Int.reduceLE,Int.reduceEq,Nat.reduceEqDiff,Nat.reduceAdd,Nat.reduceLeDiff,reduceIte,reduceCtorEq,Nat.reduceBEq,i64,pathsD,h9,h10,h15,h16,hTl,List.length_map]
  refine call_pure hlv rfl rfl ?_
  simp only[zX,Nat.reduceShiftRight,Nat.reduceMod,Nat.reduceLT,Nat.reduceMul,Nat.reduceSub,Int.reduceToNat,Int.reduceNeg,Int.reduceLT,Int.reduceLE,Int.reduceEq,Nat.reduceEqDiff,Nat.reduceAdd,Nat.reduceLeDiff,reduceIte,reduceCtorEq,Nat.reduceBEq,i64,bV]
 obtain⟨t,ht⟩:∃t,T[i]?=some t:=⟨_,List.getElem?_eq_getElem (by omega)⟩
 obtain⟨a1,a2,q1,q2,c1,c2⟩:=hTok t (List.mem_of_getElem? ht)
 generalize p.re.atR t=ra at *
 generalize p.re.putR t q.re=rp at *
 obtain⟨x,ex⟩:=ra
 obtain⟨y,ey⟩:=rp
 simp only[i64] at a1 a2 q1 q2 c1 c2
 have hli:(i:Int) < 4:=by omega
 simp only[zX,Nat.reduceShiftRight,Nat.reduceMod,Nat.reduceLT,Nat.reduceMul,Nat.reduceSub,Int.reduceToNat,Int.reduceNeg,Int.reduceLT,Int.reduceLE,Int.reduceEq,Nat.reduceEqDiff,Nat.reduceAdd,Nat.reduceLeDiff,reduceIte,reduceCtorEq,Nat.reduceBEq,i64,pathsD,h9,h10,h15,h16,hTl,hli,hlt,List.length_map]
 refine draw_first Cln0.reserve ?_
 refine draw_c mix [] [(10,[2],[2]),(11,[2],[2])] (by rfl) ?_
 simp only[zX,Nat.reduceShiftRight,Nat.reduceMod,Nat.reduceLT,Nat.reduceMul,Nat.reduceSub,Int.reduceToNat,Int.reduceNeg,Int.reduceLT,Int.reduceLE,Int.reduceEq,Nat.reduceEqDiff,Nat.reduceAdd,Nat.reduceLeDiff,reduceIte,reduceCtorEq,Nat.reduceBEq,i64,pathsD,pathD,h9,h10,h15,h16,hTl,hlt,ht,hole,patC_len,take_patC,take8_patC,take_cells,Re.cells_len,List.length_map,reV_fold]
 refine callC_pure a1 (by simp only[refsV,refsV.go,refsV_reV,Bool.and_true,Bool.true_and]) (by simp only[refsV,refsV.go,refsV_reV,Bool.and_true,Bool.true_and]) ?_
 simp only[zX,Nat.reduceShiftRight,Nat.reduceMod,Nat.reduceLT,Nat.reduceMul,Nat.reduceSub,Int.reduceToNat,Int.reduceNeg,Int.reduceLT,Int.reduceLE,Int.reduceEq,Nat.reduceEqDiff,Nat.reduceAdd,Nat.reduceLeDiff,reduceIte,reduceCtorEq,Nat.reduceBEq,i64,pathsD,pathD,h9,h10,h15,h16,hTl,hlt,ht,hole,patC_len,take_patC,take8_patC,take_cells,Re.cells_len,List.length_map,reV_fold]
 refine draw_first Cln0.reserve ?_
 refine draw_c mix [] [(10,[3],[3]),(11,[3],[3])] (by rfl) ?_
 simp only[zX,Nat.reduceShiftRight,Nat.reduceMod,Nat.reduceLT,Nat.reduceMul,Nat.reduceSub,Int.reduceToNat,Int.reduceNeg,Int.reduceLT,Int.reduceLE,Int.reduceEq,Nat.reduceEqDiff,Nat.reduceAdd,Nat.reduceLeDiff,reduceIte,reduceCtorEq,Nat.reduceBEq,i64,pathsD,pathD,h9,h10,h15,h16,hTl,hlt,ht,hole,patC_len,take_patC,take8_patC,take_cells,Re.cells_len,List.length_map,reV_fold,ne_eq,not_true_eq_false,decide_false,bne_self_eq_false,Bool.not_true,beq_self_eq_true]
 refine callC_pure a2 (by simp only[refsV,refsV.go,refsV_reV,Bool.and_true,Bool.true_and]) (by simp only[refsV,refsV.go,refsV_reV,Bool.and_true,Bool.true_and]) ?_
 simp only[zX,Nat.reduceShiftRight,Nat.reduceMod,Nat.reduceLT,Nat.reduceMul,Nat.reduceSub,Int.reduceToNat,Int.reduceNeg,Int.reduceLT,Int.reduceLE,Int.reduceEq,Nat.reduceEqDiff,Nat.reduceAdd,Nat.reduceLeDiff,reduceIte,reduceCtorEq,Nat.reduceBEq,i64,pathsD,pathD,h9,h10,h15,h16,hTl,hlt,ht,hole,patC_len,take_patC,take8_patC,take_cells,Re.cells_len,List.length_map,reV_fold,ne_eq,not_true_eq_false,decide_false,bne_self_eq_false,Bool.not_true,beq_self_eq_true]
 refine draw_first Cln0.reserve ?_
 refine draw_c mix [] [(12,[4],[4]),(13,[4],[4])] (by rfl) ?_
 simp only[zX,Nat.reduceShiftRight,Nat.reduceMod,Nat.reduceLT,Nat.reduceMul,Nat.reduceSub,Int.reduceToNat,Int.reduceNeg,Int.reduceLT,Int.reduceLE,Int.reduceEq,Nat.reduceEqDiff,Nat.reduceAdd,Nat.reduceLeDiff,reduceIte,reduceCtorEq,Nat.reduceBEq,i64,pathsD,pathD,h9,h10,h15,h16,hTl,hlt,ht,hole,patC_len,take_patC,take8_patC,take_cells,Re.cells_len,List.length_map,reV_fold,ne_eq,not_true_eq_false,decide_false,bne_self_eq_false,Bool.not_true,beq_self_eq_true]
 refine callC_pure q1 (by simp only[refsV,refsV.go,refsV_reV,Bool.and_true,Bool.true_and]) (by simp only[refsV,refsV.go,refsV_reV,Bool.and_true,Bool.true_and]) ?_
 simp only[zX,Nat.reduceShiftRight,Nat.reduceMod,Nat.reduceLT,Nat.reduceMul,Nat.reduceSub,Int.reduceToNat,Int.reduceNeg,Int.reduceLT,Int.reduceLE,Int.reduceEq,Nat.reduceEqDiff,Nat.reduceAdd,Nat.reduceLeDiff,reduceIte,reduceCtorEq,Nat.reduceBEq,i64,pathsD,pathD,h9,h10,h15,h16,hTl,hlt,ht,hole,patC_len,take_patC,take8_patC,take_cells,Re.cells_len,List.length_map,reV_fold,ne_eq,not_true_eq_false,decide_false,bne_self_eq_false,Bool.not_true,beq_self_eq_true]
 refine draw_first Cln0.reserve ?_
 refine draw_c mix [] [(12,[5],[5]),(13,[5],[5])] (by rfl) ?_
 simp only[zX,Nat.reduceShiftRight,Nat.reduceMod,Nat.reduceLT,Nat.reduceMul,Nat.reduceSub,Int.reduceToNat,Int.reduceNeg,Int.reduceLT,Int.reduceLE,Int.reduceEq,Nat.reduceEqDiff,Nat.reduceAdd,Nat.reduceLeDiff,reduceIte,reduceCtorEq,Nat.reduceBEq,i64,pathsD,pathD,h9,h10,h15,h16,hTl,hlt,ht,hole,patC_len,take_patC,take8_patC,take_cells,Re.cells_len,List.length_map,reV_fold,ne_eq,not_true_eq_false,decide_false,bne_self_eq_false,Bool.not_true,beq_self_eq_true]
 refine callC_pure q2 (by simp only[refsV,refsV.go,refsV_reV,Bool.and_true,Bool.true_and]) (by simp only[refsV,refsV.go,refsV_reV,Bool.and_true,Bool.true_and]) ?_
 simp only[zX,Nat.reduceShiftRight,Nat.reduceMod,Nat.reduceLT,Nat.reduceMul,Nat.reduceSub,Int.reduceToNat,Int.reduceNeg,Int.reduceLT,Int.reduceLE,Int.reduceEq,Nat.reduceEqDiff,Nat.reduceAdd,Nat.reduceLeDiff,reduceIte,reduceCtorEq,Nat.reduceBEq,i64,pathsD,pathD,h9,h10,h15,h16,hTl,hlt,ht,hole,patC_len,take_patC,take8_patC,take_cells,Re.cells_len,List.length_map,reV_fold,ne_eq,not_true_eq_false,decide_false,bne_self_eq_false,Bool.not_true,beq_self_eq_true]
 refine call_pure c1 (by simp only[refsV,refsV.go,refsV_reV,Bool.and_true,Bool.true_and]) rfl ?_
 simp only[zX,Nat.reduceShiftRight,Nat.reduceMod,Nat.reduceLT,Nat.reduceMul,Nat.reduceSub,Int.reduceToNat,Int.reduceNeg,Int.reduceLT,Int.reduceLE,Int.reduceEq,Nat.reduceEqDiff,Nat.reduceAdd,Nat.reduceLeDiff,reduceIte,reduceCtorEq,Nat.reduceBEq,i64,pathsD,pathD,h9,h10,h15,h16,hTl,hlt,ht,hole,patC_len,take_patC,take8_patC,take_cells,Re.cells_len,List.length_map,reV_fold,ne_eq,not_true_eq_false,decide_false,bne_self_eq_false,Bool.not_true,beq_self_eq_true]
 refine call_pure c2 (by simp only[refsV,refsV.go,refsV_reV,Bool.and_true,Bool.true_and]) rfl ?_
 simp only[zX,Nat.reduceShiftRight,Nat.reduceMod,Nat.reduceLT,Nat.reduceMul,Nat.reduceSub,Int.reduceToNat,Int.reduceNeg,Int.reduceLT,Int.reduceLE,Int.reduceEq,Nat.reduceEqDiff,Nat.reduceAdd,Nat.reduceLeDiff,reduceIte,reduceCtorEq,Nat.reduceBEq,i64,pathsD,pathD,h9,h10,h15,h16,hTl,hlt,ht,hole,patC_len,take_patC,take8_patC,take_cells,Re.cells_len,List.length_map,reV_fold,ne_eq,not_true_eq_false,decide_false,bne_self_eq_false,Bool.not_true,beq_self_eq_true]
 refine⟨4 - (i + 1),_,_,by omega,Cln.cut 2 (by omega) rfl ?_ [9,10,15,16] ?_,i + 1,rfl,by omega,?_,?_,?_,?_,rfl⟩ <;> (try simp only[zU,Nat.reduceBEq,Nat.reduceShiftRight,Nat.reduceMod,Nat.reduceEqDiff,reduceIte])
 ·simp only[List.take_succ_cons,List.take_zero,List.all_cons,List.all_nil,Bool.and_true,Bool.and_eq_true,objOk]
  exact⟨refs_data 2 _,refs_data 2 _⟩
 ·simp [updE,trimE_app,refsV,h9,h10,h15]
 ·exact h9
 ·exact h10
 ·exact h15
 ·rw[w64 _ (by omega)]; rfl
end Go.Proofs.Ytffeafbdcakfbaa
