/- A part of the proof (MM26). -/
import Derived.Test.YtpppfpaalcbggaaMB40
import Derived.Test.YtpppfpaalcbggaaMB39
set_option linter.unusedSimpArgs false
set_option linter.unusedVariables false
set_option maxRecDepth 100000
set_option maxHeartbeats 80000000
namespace Go.Proofs.Ytpppfpaalcbggaa
open Go.VL
theorem memoBounds_ok (l:List Int) (hl:∀x∈l,I64 x) (uses tat how by' n:Int) (hu:I64 uses) (ha:I64 tat) (hh:I64 how) (hb:I64 by') (hn:I64 n) :
  PureOK Try.prog 4 [.d (intsD l),i64 uses,i64 tat,i64 how,i64 by',i64 n] (bV true):=by
 have hau:=around_ok uses 128 (by omega) hu
 have hiu:=around_in uses 128 (by omega) hu
 have h1:=pat_small l (around uses 128) 30 hl (by omega) (by omega)
 have hp:=pattern_ok l (around uses 128) 30 hl (by omega) (by omega)
 generalize patOf l (around uses 128) 30=p1 at *
 generalize around uses 128=u at *
 obtain⟨p2,s2,k2⟩:=spoilt_ok 256 (by omega) p1 h1 tat how by' ha hh hb
 have h20:=around_ok n 20 (by omega) hn
 have h65:=around_ok n 65537 (by omega) hn
 generalize around n 20=n2 at *
 generalize around n 65537=n3 at *
 have hlv:=lives9_ok
 have hps:∀p∈[p1,p2],p.small 2000:=by
  intro p hp
  simp only[List.mem_cons,List.not_mem_nil,or_false] at hp
  rcases hp with rfl | rfl
  ·exact small_every_le (by omega) h1
  ·exact small_every_le (by omega) s2
 have hmap:[patC p1,patC p2]=[p1,p2].map patC:=rfl
 have hlen2:([p1,p2]:List Pat).length=2:=rfl
 rw[patV_C] at hp k2
 rw[patV_C p2] at k2
 have hns:([[D.sc (.int .i64 n)],[D.sc (.int .i64 n2)],[D.sc (.int .i64 n3)],[D.sc (.int .i64 65536)]]:List (List D))=[n,n2,n3,65536].map fun x=>[D.sc (.int .i64 x)]:=rfl
 have hnl:([n,n2,n3,65536]:List Int).length=4:=rfl
 refine fn_ok Try.func4 rfl Try.ntmps4 Try.results4 rfl 0 4190271 (by simp) (by simp) ?_
 simp only[zX,Nat.reduceShiftRight,Nat.reduceMod,Nat.reduceLT,Nat.reduceMul,Nat.reduceSub,Int.reduceToNat,Int.reduceNeg,Int.reduceLT,Int.reduceLE,Int.reduceEq,Nat.reduceEqDiff,Nat.reduceAdd,Nat.reduceLeDiff,reduceIte,reduceCtorEq,Nat.reduceBEq,i64]
 refine call_pure hau rfl rfl ?_
 simp only[zX,Nat.reduceShiftRight,Nat.reduceMod,Nat.reduceLT,Nat.reduceMul,Nat.reduceSub,Int.reduceToNat,Int.reduceNeg,Int.reduceLT,Int.reduceLE,Int.reduceEq,Nat.reduceEqDiff,Nat.reduceAdd,Nat.reduceLeDiff,reduceIte,reduceCtorEq,Nat.reduceBEq,i64]
 refine call_pure hp rfl (by simp only[refsV,refsV_go_d]) ?_
 simp only[zX,Nat.reduceShiftRight,Nat.reduceMod,Nat.reduceLT,Nat.reduceMul,Nat.reduceSub,Int.reduceToNat,Int.reduceNeg,Int.reduceLT,Int.reduceLE,Int.reduceEq,Nat.reduceEqDiff,Nat.reduceAdd,Nat.reduceLeDiff,reduceIte,reduceCtorEq,Nat.reduceBEq,i64,patC_eq p1,iD,bD]
 refine draw_c mix [] [] (by rfl) ?_
 simp only[zX,Nat.reduceShiftRight,Nat.reduceMod,Nat.reduceLT,Nat.reduceMul,Nat.reduceSub,Int.reduceToNat,Int.reduceNeg,Int.reduceLT,Int.reduceLE,Int.reduceEq,Nat.reduceEqDiff,Nat.reduceAdd,Nat.reduceLeDiff,reduceIte,reduceCtorEq,Nat.reduceBEq,i64,patC_eq p1,iD,bD]
 simp only[patC_eq p1,iD,bD,List.map_cons,List.map_nil,i64] at k2
 refine callC_pure k2 (by simp [refsV,refsV.go]) (by simp only[refsV,refsV_go_d]) ?_
 simp only[zX,Nat.reduceShiftRight,Nat.reduceMod,Nat.reduceLT,Nat.reduceMul,Nat.reduceSub,Int.reduceToNat,Int.reduceNeg,Int.reduceLT,Int.reduceLE,Int.reduceEq,Nat.reduceEqDiff,Nat.reduceAdd,Nat.reduceLeDiff,reduceIte,reduceCtorEq,Nat.reduceBEq,i64,iD,bD,patC_eq p2,List.map_cons,List.map_nil]
 refine call_pure h20 rfl rfl ?_
 simp only[zX,Nat.reduceShiftRight,Nat.reduceMod,Nat.reduceLT,Nat.reduceMul,Nat.reduceSub,Int.reduceToNat,Int.reduceNeg,Int.reduceLT,Int.reduceLE,Int.reduceEq,Nat.reduceEqDiff,Nat.reduceAdd,Nat.reduceLeDiff,reduceIte,reduceCtorEq,Nat.reduceBEq,i64]
 refine call_pure h65 rfl rfl ?_
 simp only[zX,Nat.reduceShiftRight,Nat.reduceMod,Nat.reduceLT,Nat.reduceMul,Nat.reduceSub,Int.reduceToNat,Int.reduceNeg,Int.reduceLT,Int.reduceLE,Int.reduceEq,Nat.reduceEqDiff,Nat.reduceAdd,Nat.reduceLeDiff,reduceIte,reduceCtorEq,Nat.reduceBEq,i64]
 refine loop_rule (fun m e s=>∃i:Nat,m=2 - i∧i≤2∧e 14=.fu ([p1,p2].map patC)∧e 15=.fu ([n,n2,n3,65536].map fun x=>[iD x])∧e 16=i64 i∧s=[])
  ⟨_,_,_,Cln.cut (s':=[]) 0 (Nat.le_refl _) rfl rfl [14,15,16] (by simp [updE,trimE_app,refsV]),0,rfl,by omega,by (try simp only[zU,Nat.reduceBEq,Nat.reduceShiftRight,Nat.reduceMod,Nat.reduceEqDiff,reduceIte]); rw[← hmap,patC_eq p1,patC_eq p2]; rfl,by (try simp only[zU,Nat.reduceBEq,Nat.reduceShiftRight,Nat.reduceMod,Nat.reduceEqDiff,reduceIte]); rfl,by (try simp only[zU,Nat.reduceBEq,Nat.reduceShiftRight,Nat.reduceMod,Nat.reduceEqDiff,reduceIte]); rfl,rfl⟩ ?_
 clear hp k2 hau h20 h65
 rintro m e s ⟨i,rfl,hi,h14,h15,h16,rfl⟩
 rcases Nat.lt_or_ge i 2 with hlt | hge
 ·have hlt':(i:Int) < 2:=by omega
  obtain⟨p,hpi⟩:∃p,[p1,p2][i]?=some p:=⟨_,List.getElem?_eq_getElem (by rw[hlen2]; exact hlt)⟩
  have hsm:=hps p (List.mem_of_getElem? hpi)
  have hf:=small_fine (by omega) p.re hsm.ev
  have hsz:=hsm.sz
  generalize ([p1,p2]:List Pat)=ps at *
  generalize ([n,n2,n3,65536]:List Int)=ns at *
  simp only[zX,Nat.reduceShiftRight,Nat.reduceMod,Nat.reduceLT,Nat.reduceMul,Nat.reduceSub,Int.reduceToNat,Int.reduceNeg,Int.reduceLT,Int.reduceLE,Int.reduceEq,Nat.reduceEqDiff,Nat.reduceAdd,Nat.reduceLeDiff,reduceIte,reduceCtorEq,Nat.reduceBEq,i64,h14,h15,h16,hlt',List.length_map,hlen2]
  refine loop_rule (fun m e s=>∃k:Nat,m=4 - k∧k≤4∧e 14=.fu (ps.map patC)∧e 15=.fu (ns.map fun x=>[iD x])∧e 16=i64 i∧e 17=i64 k∧s=[])
   ⟨_,_,_,Cln.refl,0,rfl,by omega,?_,?_,?_,rfl,rfl⟩ ?_ <;> (try simp only[zU,Nat.reduceBEq,Nat.reduceShiftRight,Nat.reduceMod,Nat.reduceEqDiff,reduceIte])
  ·exact h14
  ·exact h15
  ·exact h16
  clear h14 h15 h16
  rintro m e s ⟨k,rfl,hk,h14,h15,h16,h17,rfl⟩
  rcases Nat.lt_or_ge k 4 with hlt2 | hge2
  ·have hlk:(k:Int) < 4:=by omega
   obtain⟨y,hy⟩:∃y,ns[k]?=some y:=⟨_,List.getElem?_eq_getElem (by omega)⟩
   have hil:(i:Int) < (ps.length:Int):=by omega
   have hkl:(k:Int) < (ns.length:Int):=by omega
   have b1:=memoBound_ok p y hf (by omega)
   have b2:=refBound_ok p y hf hsz
   rw[bound_same] at b1
   rw[patC_eq] at b1 b2
   simp only[i64,iD,bD,List.map_cons,List.map_nil] at b1 b2
   generalize refBoundE p y=r at *
   simp only[zX,Nat.reduceShiftRight,Nat.reduceMod,Nat.reduceLT,Nat.reduceMul,Nat.reduceSub,Int.reduceToNat,Int.reduceNeg,Int.reduceLT,Int.reduceLE,Int.reduceEq,Nat.reduceEqDiff,Nat.reduceAdd,Nat.reduceLeDiff,reduceIte,reduceCtorEq,Nat.reduceBEq,i64,iD,bD,h14,h15,h16,h17,hlk,hil,hkl,List.length_map,hlen2,hnl]
   refine draw_c mix [] [] (by rfl) ?_
   simp only[zX,Nat.reduceShiftRight,Nat.reduceMod,Nat.reduceLT,Nat.reduceMul,Nat.reduceSub,Int.reduceToNat,Int.reduceNeg,Int.reduceLT,Int.reduceLE,Int.reduceEq,Nat.reduceEqDiff,Nat.reduceAdd,Nat.reduceLeDiff,reduceIte,reduceCtorEq,Nat.reduceBEq,i64,iD,bD,h14,h15,h16,h17,hil,hkl,List.length_map,hlen2,hnl,hpi,hy,List.getElem?_map,Option.map_some,patC_eq p]
   refine⟨hlt,hlt2,?_⟩
   refine callC_pure b1 rfl rfl ?_
   simp only[zX,Nat.reduceShiftRight,Nat.reduceMod,Nat.reduceLT,Nat.reduceMul,Nat.reduceSub,Int.reduceToNat,Int.reduceNeg,Int.reduceLT,Int.reduceLE,Int.reduceEq,Nat.reduceEqDiff,Nat.reduceAdd,Nat.reduceLeDiff,reduceIte,reduceCtorEq,Nat.reduceBEq,i64,iD,bD,h14,h15,h16,h17]
   refine draw_c mix [] [] (by rfl) ?_
   simp only[zX,Nat.reduceShiftRight,Nat.reduceMod,Nat.reduceLT,Nat.reduceMul,Nat.reduceSub,Int.reduceToNat,Int.reduceNeg,Int.reduceLT,Int.reduceLE,Int.reduceEq,Nat.reduceEqDiff,Nat.reduceAdd,Nat.reduceLeDiff,reduceIte,reduceCtorEq,Nat.reduceBEq,i64,iD,bD,h14,h15,h16,h17,hil,hkl,List.length_map,hlen2,hnl,hpi,hy,List.getElem?_map,Option.map_some,patC_eq p]
   refine⟨hlt,hlt2,?_⟩
   refine callC_pure b2 rfl rfl ?_
   simp only[zX,Nat.reduceShiftRight,Nat.reduceMod,Nat.reduceLT,Nat.reduceMul,Nat.reduceSub,Int.reduceToNat,Int.reduceNeg,Int.reduceLT,Int.reduceLE,Int.reduceEq,Nat.reduceEqDiff,Nat.reduceAdd,Nat.reduceLeDiff,reduceIte,reduceCtorEq,Nat.reduceBEq,i64,iD,bD,h14,h15,h16,h17,ne_eq,not_true_eq_false,decide_false]
   refine⟨4 - (k + 1),_,_,by omega,Cln.refl,k + 1,rfl,hlt2,?_,?_,?_,?_,rfl⟩ <;> (try simp only[zU,Nat.reduceBEq,Nat.reduceShiftRight,Nat.reduceMod,Nat.reduceEqDiff,reduceIte])
   ·exact h14
   ·exact h15
   ·exact h16
   ·rw[w64 _ (by omega)]; rfl
  ·have hke:k=4:=by omega
   subst hke
   have hlk:¬((4:Nat):Int) < 4:=by decide
   simp only[zX,Nat.reduceShiftRight,Nat.reduceMod,Nat.reduceLT,Nat.reduceMul,Nat.reduceSub,Int.reduceToNat,Int.reduceNeg,Int.reduceLT,Int.reduceLE,Int.reduceEq,Nat.reduceEqDiff,Nat.reduceAdd,Nat.reduceLeDiff,reduceIte,reduceCtorEq,Nat.reduceBEq,i64,h14,h15,h16,h17,hlk]
   refine⟨2 - (i + 1),_,_,by omega,Cln.refl,i + 1,rfl,hlt,?_,?_,?_,rfl⟩ <;> (try simp only[zU,Nat.reduceBEq,Nat.reduceShiftRight,Nat.reduceMod,Nat.reduceEqDiff,reduceIte])
   ·exact h14
   ·exact h15
   ·rw[w64 _ (by omega)]; rfl
 ·have hie:i=2:=by omega
  subst hie
  have hlt':¬((2:Nat):Int) < 2:=by decide
  simp only[zX,Nat.reduceShiftRight,Nat.reduceMod,Nat.reduceLT,Nat.reduceMul,Nat.reduceSub,Int.reduceToNat,Int.reduceNeg,Int.reduceLT,Int.reduceLE,Int.reduceEq,Nat.reduceEqDiff,Nat.reduceAdd,Nat.reduceLeDiff,reduceIte,reduceCtorEq,Nat.reduceBEq,i64,h14,h15,h16,hlt']
  refine call_pure hlv rfl rfl ?_
  simp only[zX,Nat.reduceShiftRight,Nat.reduceMod,Nat.reduceLT,Nat.reduceMul,Nat.reduceSub,Int.reduceToNat,Int.reduceNeg,Int.reduceLT,Int.reduceLE,Int.reduceEq,Nat.reduceEqDiff,Nat.reduceAdd,Nat.reduceLeDiff,reduceIte,reduceCtorEq,Nat.reduceBEq,bV]
end Go.Proofs.Ytpppfpaalcbggaa
