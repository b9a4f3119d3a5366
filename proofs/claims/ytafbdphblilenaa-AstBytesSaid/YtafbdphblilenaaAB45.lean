/- A part of the proof (F105 F106). -/
import Derived.Test.YtafbdphblilenaaAB44
set_option linter.unusedSimpArgs false
set_option linter.unusedVariables false
set_option maxRecDepth 100000
set_option maxHeartbeats 80000000
set_option linter.unusedSimpArgs false
set_option linter.unusedVariables false
namespace Go.Proofs.Ytafbdphblilenaa
open Go.VL Go.Proofs.Try
theorem frz1_slot {e:VL.Env} {s:List VL.Obj} (ids:List Nat) (t:Nat) {v:V} (h:frzV (killO s ids).length (killO s ids) (e t)=some v):Cln0 e s (updE e t v) (killO s ids):=by
 have hc:=Cln0.freeze (e:=e) (s:=s) ids [t]
 have he:freezeE (killO s ids) [t] e=updE e t v:=by
  funext x
  unfold freezeE updE
  by_cases hx:x=t
  ·subst hx; simp [cleanV,h]
  ·simp [hx]
 rwa [he] at hc
theorem drop8_patC (p:Pat):(patC p).drop 8=[iD p.caps,bD p.runes]:=by
 unfold patC
 exact List.drop_left' (Re.cells_len p.re)
theorem astBytesL_ok (l:List Int) (hl:∀x∈l,I64 x) (tat how by':Int) (ha:I64 tat) (hh:I64 how) (hb:I64 by') (raw:List Nat) (hraw:∀b∈raw,b < 256) (c:Nat) (hc:c < 256) :
  PureOK prog 11 [.d (intsD l),i64 tat,i64 how,i64 by',.d (bytesD raw),u8 c] (bV true):=by
 obtain⟨p2,p3,s2,s3,hpairs⟩:=pairsK_ok l hl tat how by' ha hh hb
 have s1:=pat_small l 127 30 hl (by omega) (by omega)
 generalize patOf l 127 30=p1 at *
 have hlv:=lives_ok
 obtain⟨ps,hps⟩:∃ps:List Pat,ps=[p1,p2,p3]:=⟨_,rfl⟩
 have hpl:ps.length=3:=by rw[hps]; rfl
 have hsm:∀p∈ps,p.small 2000:=by
  rw[hps]
  intro p hp
  simp only[List.mem_cons,List.not_mem_nil,or_false] at hp
  rcases hp with rfl | rfl | rfl
  ·exact small_every_le (by omega) s1
  ·exact small_every_le (by omega) s2
  ·exact small_every_le (by omega) s3
 simp only[i64] at hpairs
 refine fn_ok func11 rfl ntmps11 results11 rfl 0 16773183 (by simp) (by simp) ?_
 simp only[zX,Nat.reduceShiftRight,Nat.reduceMod,Nat.reduceLT,Nat.reduceMul,Nat.reduceSub,Int.reduceToNat,Int.reduceNeg,Int.reduceLT,Int.reduceLE,Int.reduceEq,Nat.reduceEqDiff,Nat.reduceAdd,Nat.reduceLeDiff,reduceIte,reduceCtorEq,Nat.reduceBEq,i64,u8]
 refine call_pure hpairs rfl rfl ?_
 simp only[zX,Nat.reduceShiftRight,Nat.reduceMod,Nat.reduceLT,Nat.reduceMul,Nat.reduceSub,Int.reduceToNat,Int.reduceNeg,Int.reduceLT,Int.reduceLE,Int.reduceEq,Nat.reduceEqDiff,Nat.reduceAdd,Nat.reduceLeDiff,reduceIte,reduceCtorEq,Nat.reduceBEq,i64]
 refine loop_rule (fun n e s=>∃i:Nat,n=ps.length - i∧i≤ps.length∧e 1=i64 tat∧e 4=.d (bytesD raw)∧e 5=u8 c∧e 13=.d (.sl (ps.map patC))∧e 14=i64 i∧s=[])
  ⟨_,_,_,Cln.drop 0 (Nat.le_refl _) [1,4,5,13,14],0,rfl,by omega,?_,?_,?_,?_,?_,rfl⟩ ?_
 ·simp [cleanE,cleanV,updE,frzV,i64,trimE_app,envOf]
 ·simp [cleanE,cleanV,updE,frzV,i64,trimE_app,envOf]
 ·simp [cleanE,cleanV,updE,frzV,i64,u8,trimE_app,envOf]
 ·have hp3:∀(n lim:Nat) (s:List VL.Obj) (p:Pat),((patC p).map V.d).mapM (frzD n lim s)=some (patC p):=fun n lim s p=>mapM_frzD n lim s (patC p)
  rw[hps]
  simp only[cleanE,cleanV,List.contains_cons,List.contains_nil,Nat.reduceBEq,Bool.or_false,Bool.false_or,Bool.true_or,Bool.or_true,if_true,if_false,reduceIte,updE,Nat.reduceEqDiff,frzV,frzD,List.map_cons,List.map_nil,Option.getD_some]
 ·simp [cleanE,cleanV,updE,frzV,i64]
 clear hps hpairs
 rintro n e s ⟨i,rfl,hi,h1,h4,h5,h13,h14,rfl⟩
 simp only[i64,u8] at h1 h5 h14
 rcases Nat.lt_or_ge i ps.length with hlti | hge
 rotate_left
 ·have hie:i=ps.length:=by omega
  subst hie
  simp only[zX,Nat.reduceShiftRight,Nat.reduceMod,Nat.reduceLT,Nat.reduceMul,Nat.reduceSub,Int.reduceToNat,Int.reduceNeg,Int.reduceLT,Int.reduceLE,Int.reduceEq,Nat.reduceEqDiff,Nat.reduceAdd,Nat.reduceLeDiff,reduceIte,reduceCtorEq,Nat.reduceBEq,i64,h1,h4,h5,h13,h14,Int.lt_irrefl,List.length_map]
  refine call_pure hlv rfl rfl ?_
  simp only[zX,Nat.reduceShiftRight,Nat.reduceMod,Nat.reduceLT,Nat.reduceMul,Nat.reduceSub,Int.reduceToNat,Int.reduceNeg,Int.reduceLT,Int.reduceLE,Int.reduceEq,Nat.reduceEqDiff,Nat.reduceAdd,Nat.reduceLeDiff,reduceIte,reduceCtorEq,Nat.reduceBEq,i64,bV]
 obtain⟨p,hp⟩:∃p,ps[i]?=some p:=⟨_,List.getElem?_eq_getElem hlti⟩
 have hmp:=List.mem_of_getElem? hp
 have hsp:=hsm p hmp
 obtain⟨El1,El2⟩:=encP_len (by omega) hsp
 have hEb:=encP_byte p
 have k1:=encode_ok 2000 (by omega) p hsp
 have k2:=decode_ok (encP p) (by omega) hEb
 have k3:=refEncode_ok 2000 (by omega) p hsp.ev hsp.caps (by omega)
 have k4:=sameBytes_ok (encP p) (encP p) (by omega)
 have k5:=rdInt_ok (encP p) (encP p) 0 (List.suffix_refl _) (by omega) hEb
 rw[rI_encP hsp.caps] at k5
 have hfp:=small_fine (by omega) p.re hsp.ev
 have k6:=refValid_ok p hfp (by have:=hsp.sz; omega)
 rw[patV_C] at k6
 have k7:=refSame_ok p hfp
 have kdec:=dec_of hsp
 have k8:=few_own (encP p) ((encP p).length:Int) (by omega) (by omega)
 rw[List.take_of_length_le (by omega)] at k8
 have k10:=around_ok tat ((encP p).length:Int) (by omega) ha
 have k11:=around_in tat ((encP p).length:Int) (by omega) ha
 have k9:=(few_own raw 30 (by omega) (by omega)).pure
 have hlti':(i:Int) < (ps.length:Int):=by omega
 have heq:decide (encP p=encP p)=true:=decide_eq_true rfl
 rw[heq] at k4
 have hE0:¬((encP p).length:Int)=0:=by omega
 simp only[i64,bV] at k1 k2 k3 k4 k5 k6 k7 k8 k9 k10
 simp only[zX,Nat.reduceShiftRight,Nat.reduceMod,Nat.reduceLT,Nat.reduceMul,Nat.reduceSub,Int.reduceToNat,Int.reduceNeg,Int.reduceLT,Int.reduceLE,Int.reduceEq,Nat.reduceEqDiff,Nat.reduceAdd,Nat.reduceLeDiff,reduceIte,reduceCtorEq,Nat.reduceBEq,i64,h1,h4,h5,h13,h14,hlti',List.length_map,hp,List.getElem?_map,Option.map_some,patC_len,take_patC]
 refine call_pure k1 (by simp only[refsV,refsV.go,refsV_go_d,Bool.and_self]) rfl ?_
 simp only[zX,Nat.reduceShiftRight,Nat.reduceMod,Nat.reduceLT,Nat.reduceMul,Nat.reduceSub,Int.reduceToNat,Int.reduceNeg,Int.reduceLT,Int.reduceLE,Int.reduceEq,Nat.reduceEqDiff,Nat.reduceAdd,Nat.reduceLeDiff,reduceIte,reduceCtorEq,Nat.reduceBEq,i64,h1,h4,h5,h13,h14]
 refine call_pure k2 rfl (by simp only[refsV,refsV.go,refsV_go_d,Bool.and_self]) ?_
 simp only[zX,Nat.reduceShiftRight,Nat.reduceMod,Nat.reduceLT,Nat.reduceMul,Nat.reduceSub,Int.reduceToNat,Int.reduceNeg,Int.reduceLT,Int.reduceLE,Int.reduceEq,Nat.reduceEqDiff,Nat.reduceAdd,Nat.reduceLeDiff,reduceIte,reduceCtorEq,Nat.reduceBEq,i64,h1,h4,h5,h13,h14,patC_len,take_patC,List.length_map]
 refine call_read (by omega) ?_
 generalize hR:decR (encP p)=R at *
 obtain⟨q,f⟩:=R
 simp only[zX,Nat.reduceShiftRight,Nat.reduceMod,Nat.reduceLT,Nat.reduceMul,Nat.reduceSub,Int.reduceToNat,Int.reduceNeg,Int.reduceLT,Int.reduceLE,Int.reduceEq,Nat.reduceEqDiff,Nat.reduceAdd,Nat.reduceLeDiff,reduceIte,reduceCtorEq,Nat.reduceBEq,i64,h1,h4,h5,h13,h14,List.length_cons,List.length_nil,List.cons_append,List.nil_append]
 refine draw_c mix [] [(15,[1],[]),(19,[1],[1])] (by rfl) ?_
 simp only[zX,Nat.reduceShiftRight,Nat.reduceMod,Nat.reduceLT,Nat.reduceMul,Nat.reduceSub,Int.reduceToNat,Int.reduceNeg,Int.reduceLT,Int.reduceLE,Int.reduceEq,Nat.reduceEqDiff,Nat.reduceAdd,Nat.reduceLeDiff,reduceIte,reduceCtorEq,Nat.reduceBEq,i64,h1,h4,h5,h13,h14,hlti',List.length_map,hp,List.getElem?_map,Option.map_some,patC_len,take_patC]
 refine callC_pure k3 (by simp only[refsV,refsV.go,refsV_go_d,Bool.and_self]) rfl ?_
 simp only[zX,Nat.reduceShiftRight,Nat.reduceMod,Nat.reduceLT,Nat.reduceMul,Nat.reduceSub,Int.reduceToNat,Int.reduceNeg,Int.reduceLT,Int.reduceLE,Int.reduceEq,Nat.reduceEqDiff,Nat.reduceAdd,Nat.reduceLeDiff,reduceIte,reduceCtorEq,Nat.reduceBEq,i64,h1,h4,h5,h13,h14]
 refine callC_pure k4 rfl rfl ?_
 simp only[zX,Nat.reduceShiftRight,Nat.reduceMod,Nat.reduceLT,Nat.reduceMul,Nat.reduceSub,Int.reduceToNat,Int.reduceNeg,Int.reduceLT,Int.reduceLE,Int.reduceEq,Nat.reduceEqDiff,Nat.reduceAdd,Nat.reduceLeDiff,reduceIte,reduceCtorEq,Nat.reduceBEq,i64,h1,h4,h5,h13,h14,hlti',hE0,Bool.not_true,bytesD,List.length_map,decide_false]
 refine⟨rfl,⟨_,rfl⟩,?_⟩
 refine callF_at 1 (r':=.d (.sc (.int .i64 p.caps))) k5 rfl rfl rfl rfl rfl ?_
 have t1:(p.caps=p.caps)=True:=eq_true rfl
 simp only[zX,Nat.reduceShiftRight,Nat.reduceMod,Nat.reduceLT,Nat.reduceMul,Nat.reduceSub,Int.reduceToNat,Int.reduceNeg,Int.reduceLT,Int.reduceLE,Int.reduceEq,Nat.reduceEqDiff,Nat.reduceAdd,Nat.reduceLeDiff,reduceIte,reduceCtorEq,Nat.reduceBEq,i64,h1,h4,h5,h13,h14,hlti',hp,List.length_map,List.getElem?_map,Option.map_some,patC_len,drop8_patC,iD,bD,rdO_ren,List.set_cons_succ,List.set_cons_zero,t1,decide_true,Bool.not_true]
 by_cases hv:validR p=0
 case' pos =>
  have hqf:=kdec.1 hv
  simp only[Prod.mk.injEq] at hqf
  obtain⟨hq,hf⟩:=hqf
  subst hf
  rw[hv] at k6
  rw[hq]
  refine draw_c mix [] [] (by rfl) ?_
  simp only[zX,Nat.reduceShiftRight,Nat.reduceMod,Nat.reduceLT,Nat.reduceMul,Nat.reduceSub,Int.reduceToNat,Int.reduceNeg,Int.reduceLT,Int.reduceLE,Int.reduceEq,Nat.reduceEqDiff,Nat.reduceAdd,Nat.reduceLeDiff,reduceIte,reduceCtorEq,Nat.reduceBEq,i64,h1,h4,h5,h13,h14,hlti',hp,List.length_map,List.getElem?_map,Option.map_some,patC_len,take_patC]
  refine callC_pure k6 (by simp only[refsV,refsV.go,refsV_go_d,Bool.and_self]) rfl ?_
  simp only[zX,Nat.reduceShiftRight,Nat.reduceMod,Nat.reduceLT,Nat.reduceMul,Nat.reduceSub,Int.reduceToNat,Int.reduceNeg,Int.reduceLT,Int.reduceLE,Int.reduceEq,Nat.reduceEqDiff,Nat.reduceAdd,Nat.reduceLeDiff,reduceIte,reduceCtorEq,Nat.reduceBEq,i64,h1,h4,h5,h13,h14,hlti',hp,List.length_map,List.getElem?_map,Option.map_some,patC_len,take_patC,decide_true,Bool.not_true]
  refine callC_pure k7 (by simp only[refsV,refsV.go,refsV_go_d,Bool.and_self]) rfl ?_
  simp only[zX,Nat.reduceShiftRight,Nat.reduceMod,Nat.reduceLT,Nat.reduceMul,Nat.reduceSub,Int.reduceToNat,Int.reduceNeg,Int.reduceLT,Int.reduceLE,Int.reduceEq,Nat.reduceEqDiff,Nat.reduceAdd,Nat.reduceLeDiff,reduceIte,reduceCtorEq,Nat.reduceBEq,i64,h1,h4,h5,h13,h14,hlti',hp,List.length_map,List.getElem?_map,Option.map_some,patC_len,take_patC,decide_true,Bool.not_true]
  refine callC_pure k6 (by simp only[refsV,refsV.go,refsV_go_d,Bool.and_self]) rfl ?_
  simp only[zX,Nat.reduceShiftRight,Nat.reduceMod,Nat.reduceLT,Nat.reduceMul,Nat.reduceSub,Int.reduceToNat,Int.reduceNeg,Int.reduceLT,Int.reduceLE,Int.reduceEq,Nat.reduceEqDiff,Nat.reduceAdd,Nat.reduceLeDiff,reduceIte,reduceCtorEq,Nat.reduceBEq,i64,h1,h4,h5,h13,h14,hlti',hp,List.length_map,List.getElem?_map,Option.map_some,patC_len,take_patC,decide_true,Bool.not_true]
 case' neg =>
  have hqf:=kdec.2 hv
  simp only[Prod.mk.injEq] at hqf
  obtain⟨rfl,rfl⟩:=hqf
  have hv':(validR p=0)=False:=eq_false hv
  generalize validR p=vv at *
  refine draw_c mix [] [] (by rfl) ?_
  simp only[zX,Nat.reduceShiftRight,Nat.reduceMod,Nat.reduceLT,Nat.reduceMul,Nat.reduceSub,Int.reduceToNat,Int.reduceNeg,Int.reduceLT,Int.reduceLE,Int.reduceEq,Nat.reduceEqDiff,Nat.reduceAdd,Nat.reduceLeDiff,reduceIte,reduceCtorEq,Nat.reduceBEq,i64,h1,h4,h5,h13,h14,hlti',hp,List.length_map,List.getElem?_map,Option.map_some,patC_len,take_patC]
  refine callC_pure k6 (by simp only[refsV,refsV.go,refsV_go_d,Bool.and_self]) rfl ?_
  simp only[zX,Nat.reduceShiftRight,Nat.reduceMod,Nat.reduceLT,Nat.reduceMul,Nat.reduceSub,Int.reduceToNat,Int.reduceNeg,Int.reduceLT,Int.reduceLE,Int.reduceEq,Nat.reduceEqDiff,Nat.reduceAdd,Nat.reduceLeDiff,reduceIte,reduceCtorEq,Nat.reduceBEq,i64,h1,h4,h5,h13,h14,hlti',hp,List.length_map,List.getElem?_map,Option.map_some,patC_len,take_patC,hv',decide_false,Bool.not_false]
  refine callC_pure k6 (by simp only[refsV,refsV.go,refsV_go_d,Bool.and_self]) rfl ?_
  simp only[zX,Nat.reduceShiftRight,Nat.reduceMod,Nat.reduceLT,Nat.reduceMul,Nat.reduceSub,Int.reduceToNat,Int.reduceNeg,Int.reduceLT,Int.reduceLE,Int.reduceEq,Nat.reduceEqDiff,Nat.reduceAdd,Nat.reduceLeDiff,reduceIte,reduceCtorEq,Nat.reduceBEq,i64,h1,h4,h5,h13,h14,hlti',hp,List.length_map,List.getElem?_map,Option.map_some,patC_len,take_patC,hv',decide_true,decide_false,Bool.not_false,Bool.not_true]
 all_goals clear kdec k1 k2 k3 k4 k5 k6 k7 heq
 all_goals
  obtain⟨m,hm⟩:∃m:Nat,around tat ((encP p).length:Int)=m:=⟨(around tat ((encP p).length:Int)).toNat,by omega⟩
  rw[hm] at k10 k11
  have m0:(0:Int)≤(m:Int):=by omega
  have m1:(m:Int) < ((encP p).length:Int):=k11.2
  obtain⟨x,hEm⟩:∃x,(encP p)[m]?=some x:=⟨_,List.getElem?_eq_getElem (by omega)⟩
  refine k8.call rfl rfl fun g=>?_
  rw[← arG_eq,bytesL_len]
  simp only[zX,Nat.reduceShiftRight,Nat.reduceMod,Nat.reduceLT,Nat.reduceMul,Nat.reduceSub,Int.reduceToNat,Int.reduceNeg,Int.reduceLT,Int.reduceLE,Int.reduceEq,Nat.reduceEqDiff,Nat.reduceAdd,Nat.reduceLeDiff,reduceIte,reduceCtorEq,Nat.reduceBEq,i64,h1,h4,h5,h13,h14,List.length_cons,List.length_nil,List.cons_append,List.nil_append]
  refine⟨rfl,?_⟩
  refine call_pure k10 rfl rfl ?_
  simp only[zX,Nat.reduceShiftRight,Nat.reduceMod,Nat.reduceLT,Nat.reduceMul,Nat.reduceSub,Int.reduceToNat,Int.reduceNeg,Int.reduceLT,Int.reduceLE,Int.reduceEq,Nat.reduceEqDiff,Nat.reduceAdd,Nat.reduceLeDiff,reduceIte,reduceCtorEq,Nat.reduceBEq,i64,h1,h4,h5,h13,h14,m0,m1,arG,Nat.zero_add,hEm,Option.map_some,u8V]
  obtain⟨E,hE⟩:∃E,encP p=E:=⟨_,rfl⟩
  rw[hE] at El1 El2 hEb m1 hEm hE0 ⊢
  obtain⟨X,hX⟩:∃X,E.set m c=X:=⟨_,rfl⟩
  have hXl:X.length=E.length:=by rw[← hX,List.length_set]
  have hXb:∀b∈X,b < 256:=by
   intro b hb
   rw[← hX] at hb
   rcases List.mem_or_eq_of_mem_set hb with h | rfl
   ·exact hEb b h
   ·exact hc
  have hels:(List.map u8V E).set m [V.d (D.sc (Value.int IntKind.u8 (c:Int)))]=(bytesL X).map fun c=>c.map V.d:=by
   rw[← hX,bytesL,bytes_up,List.map_set]; rfl
  have wl:IntKind.i64.wrap ((E.length:Int) - 1)=((E.length - 1:Nat):Int):=by rw[w64 _ (by omega)]; omega
  have l0:(0:Int)≤((E.length - 1:Nat):Int):=by omega
  have l1:((E.length - 1:Nat):Int)≤(E.length:Int):=by omega
  have l2:(((E.length - 1:Nat):Int) - 0).toNat=E.length - 1:=by omega
  rw[hels]
  refine draw_first (frz1_slot [2] 19 (v:=.d (bytesD X)) ?_) ?_
  ·exact frz_ownK (g:=g) (sz:=1) (live:=false) (els:=(bytesL X).map fun c=>c.map V.d) (ds:=bytesL X) rfl (by rw[List.drop_zero,List.take_of_length_le (by simp [bytesL,hXl])]) (by simp [bytesL,hXl]) (.inr rfl)
  refine draw_c mix [] [] (by rfl) ?_
  simp only[zX,Nat.reduceShiftRight,Nat.reduceMod,Nat.reduceLT,Nat.reduceMul,Nat.reduceSub,Int.reduceToNat,Int.reduceNeg,Int.reduceLT,Int.reduceLE,Int.reduceEq,Nat.reduceEqDiff,Nat.reduceAdd,Nat.reduceLeDiff,reduceIte,reduceCtorEq,Nat.reduceBEq,i64,h1,h4,h5,h13,h14]
  refine callC_pure k9 rfl rfl ?_
  simp only[zX,Nat.reduceShiftRight,Nat.reduceMod,Nat.reduceLT,Nat.reduceMul,Nat.reduceSub,Int.reduceToNat,Int.reduceNeg,Int.reduceLT,Int.reduceLE,Int.reduceEq,Nat.reduceEqDiff,Nat.reduceAdd,Nat.reduceLeDiff,reduceIte,reduceCtorEq,Nat.reduceBEq,i64,h1,h4,h5,h13,h14,List.length_map,wl,l0,l1,l2]
  obtain⟨TS,hTS⟩:∃TS:List (List Nat),TS=[raw.take 30,X,E.take (E.length - 1)]:=⟨_,rfl⟩
  have hTl:TS.length=3:=by rw[hTS]; rfl
  have hT:∀T∈TS,(∀b∈T,b < 256)∧T.length≤300000000:=by
   rw[hTS]
   intro T hT
   simp only[List.mem_cons,List.not_mem_nil,or_false] at hT
   rcases hT with rfl | rfl | rfl
   ·exact⟨fun b h=>hraw b (List.mem_of_mem_take h),by rw[List.length_take]; omega⟩
   ·exact⟨hXb,by omega⟩
   ·exact⟨fun b h=>hEb b (List.mem_of_mem_take h),by rw[List.length_take]; omega⟩
  refine loop_rule (fun n e s=>∃k:Nat,n=3 - k∧k≤3∧e 1=i64 tat∧e 4=.d (bytesD raw)∧e 5=u8 c∧e 13=.d (.sl (ps.map patC))∧e 14=i64 i∧e 20=.d (.sl (TS.map fun T=>[bytesD T]))∧e 21=i64 k∧s=[])
   ⟨_,_,_,Cln.drop 0 (Nat.le_refl _) [1,4,5,13,14,20,21],0,rfl,by omega,?_,?_,?_,?_,?_,?_,?_,rfl⟩ ?_
  ·simp [cleanE,cleanV,updE,frzV,i64,trimE_app,h1]
  ·simp [cleanE,cleanV,updE,frzV,trimE_app,h4]
  ·simp [cleanE,cleanV,updE,frzV,u8,trimE_app,h5]
  ·simp [cleanE,cleanV,updE,frzV,trimE_app,h13]
  ·simp [cleanE,cleanV,updE,frzV,i64,trimE_app,h14]
  ·rw[hTS]
   simp [cleanE,cleanV,updE,frzV,bytesD,bytesL,List.map_take]
  ·simp [cleanE,cleanV,updE,frzV,i64]
  clear h1 h4 h5 h13 h14 hTS k8 k9 k10
  rintro n e s ⟨k,rfl,hk,h1,h4,h5,h13,h14,h20,h21,rfl⟩
  simp only[i64,u8] at h1 h5 h14 h21
  by_cases hk3:k < 3
  case neg =>
   have hke:k=3:=by omega
   subst hke
   have w1:IntKind.i64.wrap ((i:Int) + 1)=((i + 1:Nat):Int):=by rw[w64 _ (by omega)]; omega
   have n3:¬((3:Nat):Int) < 3:=by decide
   simp only[zX,Nat.reduceShiftRight,Nat.reduceMod,Nat.reduceLT,Nat.reduceMul,Nat.reduceSub,Int.reduceToNat,Int.reduceNeg,Int.reduceLT,Int.reduceLE,Int.reduceEq,Nat.reduceEqDiff,Nat.reduceAdd,Nat.reduceLeDiff,reduceIte,reduceCtorEq,Nat.reduceBEq,i64,h1,h4,h5,h13,h14,h20,h21,n3,decide_false,w1]
   refine⟨ps.length - (i + 1),_,_,by omega,Cln.refl,i + 1,rfl,hlti,?_,?_,?_,?_,?_,rfl⟩ <;> (try simp only[zU,Nat.reduceBEq,Nat.reduceShiftRight,Nat.reduceMod,Nat.reduceEqDiff,reduceIte])
   all_goals first | exact h1 | exact h4 | exact h5 | exact h13 | rfl
  have hk3':(k:Int) < 3:=by omega
  obtain⟨T,hTk⟩:∃T,TS[k]?=some T:=⟨_,List.getElem?_eq_getElem (by omega)⟩
  have hlk:(k:Int) < (TS.length:Int):=by omega
  obtain⟨Tb,Tl⟩:=hT T (List.mem_of_getElem? hTk)
  have wk:IntKind.i64.wrap ((k:Int) + 1)=((k + 1:Nat):Int):=by rw[w64 _ (by omega)]; omega
  have j1:=decode_ok T (by omega) Tb
  have hdc:=dec_cases T
  have hd1:=fun q=>dec_small (c:=300000000) (q:=q) (by omega) Tb Tl
  have hd2:=fun q=>enc_dec (q:=q) Tb
  generalize hR2:decR T=R2 at *
  obtain⟨q2,f2⟩:=R2
  simp only at hdc
  have hgo:∀(e1:Env) (s1:List VL.Obj),e1 1=.d (.sc (.int .i64 tat))→e1 4=.d (bytesD raw)→e1 5=.d (.sc (.int .u8 (c:Int)))→e1 13=.d (.sl (ps.map patC))→e1 14=.d (.sc (.int .i64 (i:Int)))→e1 20=.d (.sl (TS.map fun T=>[bytesD T]))→e1 21=.d (.sc (.int .i64 ((k + 1:Nat):Int))) →
    Lnext 0 (fun n e s=>∃k:Nat,n=3 - k∧k≤3∧e 1=i64 tat∧e 4=.d (bytesD raw)∧e 5=u8 c∧e 13=.d (.sl (ps.map patC))∧e 14=i64 i∧e 20=.d (.sl (TS.map fun T=>[bytesD T]))∧e 21=i64 k∧s=[]) (3 - k) e1 s1:=by
   intro e1 s1 g1 g4 g5 g13 g14 g20 g21
   refine⟨3 - (k + 1),_,_,by omega,Cln.cut 0 (by omega) rfl rfl [1,4,5,13,14,20,21] ?_,k + 1,rfl,by omega,?_,?_,?_,?_,?_,?_,?_,rfl⟩
   ·simp [g1,g4,g5,g13,g14,g20,g21,refsV]
   all_goals simp only[keepE,List.contains_cons,List.contains_nil,Nat.reduceBEq,Bool.or_false,Bool.false_or,Bool.or_true,Bool.true_or,if_true,i64,u8,g1,g4,g5,g13,g14,g20,g21,reduceIte]
  simp only[i64] at j1
  by_cases hf2:f2=0
  ·subst hf2
   obtain⟨m1,m2⟩:=hd1 q2 rfl
   obtain⟨n1,n2⟩:=hd2 q2 rfl
   have hen:q2.re.enc.length≤900000000:=by
    have:=congrArg List.length n1
    unfold encP at this
    simp only[List.length_append] at this
    omega
   have hff:=small_fine (by omega) q2.re m1
   have j2:=encode_ok2 300000000 (by omega) q2 m1 m2 hen
   have j3:=sameBytes_ok T T (by omega)
   have j4:=refValid_ok q2 hff (by have:=(valid_spec8 n2).1; omega)
   rw[patV_C,n2] at j4
   rw[n1] at j2
   rw[decide_eq_true (rfl:T=T)] at j3
   simp only[i64,bV,bytesD] at j2 j3 j4
   simp only[zX,Nat.reduceShiftRight,Nat.reduceMod,Nat.reduceLT,Nat.reduceMul,Nat.reduceSub,Int.reduceToNat,Int.reduceNeg,Int.reduceLT,Int.reduceLE,Int.reduceEq,Nat.reduceEqDiff,Nat.reduceAdd,Nat.reduceLeDiff,reduceIte,reduceCtorEq,Nat.reduceBEq,i64,h1,h4,h5,h13,h14,h20,h21,hk3',hlk,hTk,List.length_map,List.getElem?_map,Option.map_some]
   refine call_pure j1 rfl (by simp only[refsV,refsV.go,refsV_go_d,Bool.and_self]) ?_
   simp only[zX,Nat.reduceShiftRight,Nat.reduceMod,Nat.reduceLT,Nat.reduceMul,Nat.reduceSub,Int.reduceToNat,Int.reduceNeg,Int.reduceLT,Int.reduceLE,Int.reduceEq,Nat.reduceEqDiff,Nat.reduceAdd,Nat.reduceLeDiff,reduceIte,reduceCtorEq,Nat.reduceBEq,i64,h1,h4,h5,h13,h14,h20,h21,patC_len,take_patC,List.length_map]
   refine draw_c mix [] [] (by rfl) ?_
   simp only[zX,Nat.reduceShiftRight,Nat.reduceMod,Nat.reduceLT,Nat.reduceMul,Nat.reduceSub,Int.reduceToNat,Int.reduceNeg,Int.reduceLT,Int.reduceLE,Int.reduceEq,Nat.reduceEqDiff,Nat.reduceAdd,Nat.reduceLeDiff,reduceIte,reduceCtorEq,Nat.reduceBEq,i64,h1,h4,h5,h13,h14,h20,h21,patC_len,take_patC,List.length_map,decide_true,Bool.not_true]
   refine callC_pure j2 (by simp only[refsV,refsV.go,refsV_go_d,Bool.and_self]) rfl ?_
   simp only[zX,Nat.reduceShiftRight,Nat.reduceMod,Nat.reduceLT,Nat.reduceMul,Nat.reduceSub,Int.reduceToNat,Int.reduceNeg,Int.reduceLT,Int.reduceLE,Int.reduceEq,Nat.reduceEqDiff,Nat.reduceAdd,Nat.reduceLeDiff,reduceIte,reduceCtorEq,Nat.reduceBEq,i64,h1,h4,h5,h13,h14,h20,h21,hlk,hTk,List.length_map,List.getElem?_map,Option.map_some,bytesD]
   refine callC_pure j3 rfl rfl ?_
   simp only[zX,Nat.reduceShiftRight,Nat.reduceMod,Nat.reduceLT,Nat.reduceMul,Nat.reduceSub,Int.reduceToNat,Int.reduceNeg,Int.reduceLT,Int.reduceLE,Int.reduceEq,Nat.reduceEqDiff,Nat.reduceAdd,Nat.reduceLeDiff,reduceIte,reduceCtorEq,Nat.reduceBEq,i64,h1,h4,h5,h13,h14,h20,h21,patC_len,take_patC,List.length_map,decide_true,Bool.not_true]
   refine callC_pure j4 (by simp only[refsV,refsV.go,refsV_go_d,Bool.and_self]) rfl ?_
   simp only[zX,Nat.reduceShiftRight,Nat.reduceMod,Nat.reduceLT,Nat.reduceMul,Nat.reduceSub,Int.reduceToNat,Int.reduceNeg,Int.reduceLT,Int.reduceLE,Int.reduceEq,Nat.reduceEqDiff,Nat.reduceAdd,Nat.reduceLeDiff,reduceIte,reduceCtorEq,Nat.reduceBEq,i64,h1,h4,h5,h13,h14,h20,h21,patC_len,take_patC,List.length_map,decide_true,Bool.not_true,wk]
   refine hgo _ _ ?_ ?_ ?_ ?_ ?_ ?_ ?_ <;> (try simp only[zU,Nat.reduceBEq,Nat.reduceShiftRight,Nat.reduceMod,Nat.reduceEqDiff,reduceIte])
   all_goals first | exact h1 | exact h4 | exact h5 | exact h13 | exact h14 | exact h20 | rfl
  ·have hz:(q2,f2)=(zeroPat,2):=by
    rcases hdc with h | h
    ·exact absurd h hf2
    ·exact h
   simp only[Prod.mk.injEq] at hz
   obtain⟨rfl,rfl⟩:=hz
   have j2:=cmpSelf_ok (.mk 0 [] [] 0 0 0 0 false) (by decide)
   simp only[zX,Nat.reduceShiftRight,Nat.reduceMod,Nat.reduceLT,Nat.reduceMul,Nat.reduceSub,Int.reduceToNat,Int.reduceNeg,Int.reduceLT,Int.reduceLE,Int.reduceEq,Nat.reduceEqDiff,Nat.reduceAdd,Nat.reduceLeDiff,reduceIte,reduceCtorEq,Nat.reduceBEq,i64,h1,h4,h5,h13,h14,h20,h21,hk3',hlk,hTk,List.length_map,List.getElem?_map,Option.map_some]
   refine call_pure j1 rfl (by simp only[refsV,refsV.go,refsV_go_d,Bool.and_self]) ?_
   simp only[zX,Nat.reduceShiftRight,Nat.reduceMod,Nat.reduceLT,Nat.reduceMul,Nat.reduceSub,Int.reduceToNat,Int.reduceNeg,Int.reduceLT,Int.reduceLE,Int.reduceEq,Nat.reduceEqDiff,Nat.reduceAdd,Nat.reduceLeDiff,reduceIte,reduceCtorEq,Nat.reduceBEq,i64,h1,h4,h5,h13,h14,h20,h21,patC_len,take_patC,List.length_map]
   refine draw_c mix [] [] (by rfl) ?_
   simp only[zX,Nat.reduceShiftRight,Nat.reduceMod,Nat.reduceLT,Nat.reduceMul,Nat.reduceSub,Int.reduceToNat,Int.reduceNeg,Int.reduceLT,Int.reduceLE,Int.reduceEq,Nat.reduceEqDiff,Nat.reduceAdd,Nat.reduceLeDiff,reduceIte,reduceCtorEq,Nat.reduceBEq,i64,h1,h4,h5,h13,h14,h20,h21,patC_len,take_patC,take8_patC,List.length_map,decide_true,Bool.not_true]
   have hcz:((zeroPat.re.cells).map V.d)=[i64 0,.d (.sl []),.d (.sl []),i64 0,i64 0,i64 0,i64 0,bV false]:=by
    unfold zeroPat
    rw[Re.cells_eq]; rfl
   refine callC_give (cargs:=[reV zeroPat.re,reV zeroPat.re]) j2 (fun s'=>?_) (by simp [refsV.go,refsV_reV]) rfl ?_
   ·simp only[reV,hcz,frzV.go,frzV,i64,bV,Option.map_some]
   simp only[zX,Nat.reduceShiftRight,Nat.reduceMod,Nat.reduceLT,Nat.reduceMul,Nat.reduceSub,Int.reduceToNat,Int.reduceNeg,Int.reduceLT,Int.reduceLE,Int.reduceEq,Nat.reduceEqDiff,Nat.reduceAdd,Nat.reduceLeDiff,reduceIte,reduceCtorEq,Nat.reduceBEq,i64,h1,h4,h5,h13,h14,h20,h21,patC_len,take_patC,List.length_map,decide_true,Bool.not_true,wk]
   refine hgo _ _ ?_ ?_ ?_ ?_ ?_ ?_ ?_ <;> (try simp only[zU,Nat.reduceBEq,Nat.reduceShiftRight,Nat.reduceMod,Nat.reduceEqDiff,reduceIte])
   all_goals first | exact h1 | exact h4 | exact h5 | exact h13 | exact h14 | exact h20 | rfl
theorem astBytesI_ok (l:List Int) (hl:∀x∈l,I64 x) (raw:List Int) (hraw:∀b∈raw,0≤b∧b≤255) (tat how by' c:Int) (ha:I64 tat) (hh:I64 how) (hb:I64 by') (hc:0≤c∧c≤255) :
  PureOK prog 11 [.d (intsD l),i64 tat,i64 how,i64 by',.d (.sl (raw.map fun x=>[D.sc (.int .u8 x)])),.d (.sc (.int .u8 c))] (bV true):=by
 have h:=astBytesL_ok l hl tat how by' ha hh hb (raw.map Int.toNat) (fun b hb=>by
  obtain⟨x,hx,rfl⟩:=List.mem_map.1 hb
  have:=hraw x hx
  omega) c.toNat (by omega)
 have e1:bytesD (raw.map Int.toNat)=.sl (raw.map fun x=>[D.sc (.int .u8 x)]):=by
  unfold bytesD
  rw[List.map_map]
  congr 1
  exact List.map_congr_left fun x hx=>by
   have:=hraw x hx
   show [D.sc (.int .u8 ((x.toNat:Nat):Int))]=_
   rw[Int.toNat_of_nonneg this.1]
 have e2:u8 c.toNat=.d (.sc (.int .u8 c)):=by
  unfold u8
  rw[Int.toNat_of_nonneg hc.1]
 rw[e1,e2] at h
 exact h
end Go.Proofs.Ytafbdphblilenaa
