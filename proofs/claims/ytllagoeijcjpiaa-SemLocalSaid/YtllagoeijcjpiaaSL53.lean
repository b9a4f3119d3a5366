/- A part of the proof (E40). -/
import Derived.Test.YtllagoeijcjpiaaSL49
import Derived.Test.YtllagoeijcjpiaaSL27
import Derived.Test.YtllagoeijcjpiaaSL52
set_option linter.unusedSimpArgs false
set_option linter.unusedVariables false
set_option maxRecDepth 100000
set_option maxHeartbeats 80000000
namespace Go.Proofs.Ytllagoeijcjpiaa
open Go.VL Go.Proofs.Try
theorem semLocalL_ok (l:List Int) (hl:∀x∈l,I64 x) (m:List Int) (hm:∀x∈m,I64 x) (at_ by_:Int) (ha:I64 at_) (hb:I64 by_) :
  PureOK prog 6 [.d (intsD l),.d (intsD m),i64 at_,i64 by_] (bV true):=by
 obtain⟨p,t,hfit,hgood,hf,htl,hgen,hloc,hrun⟩:=fits_loc l m hl hm
 have hlv:=lives7_ok
 have har:=around_ok at_ ((t.length:Int) + 1) (by omega) ha
 have hrr:=around_range at_ ((t.length:Int) + 1) (by omega) ha
 have har2:=around_ok by_ 5 (by omega) hb
 have hrr2:=around_range by_ 5 (by omega) hb
 have wt:IntKind.i64.wrap ((t.length:Int) + 1)=(t.length:Int) + 1:=w64 _ (by omega)
 generalize around at_ ((t.length:Int) + 1)=aa at *
 generalize around by_ 5=nn at *
 obtain⟨x,rfl⟩:∃x:Nat,aa=x:=⟨aa.toNat,by omega⟩
 obtain⟨n,rfl⟩:∃n:Nat,nn=n:=⟨nn.toNat,by omega⟩
 have hx:x≤t.length:=by omega
 have hn:n≤4:=by omega
 obtain⟨A,B,C,s,kA,kB,kC,hBA,hCA,hA7,hAc,hBm,hCm,hBx,hCx⟩:=loc_data hgood hf htl hgen hloc hrun x n hx hn
 have hsp:=splice_ok t x n (by omega) hx (by omega)
 clear hgood hgen hloc
 simp only[patV_C,patC_eq,List.map_cons,List.map_nil,i64,iD,bD,bV,intsD,hrun,editV,Re.cells_eq p.re] at hfit kA kB kC har har2 hsp
 have tk:(List.drop x (t.map fun x=>[D.sc (.int .i64 x)])).take ((t.length:Int) - (x:Int)).toNat=(t.drop x).map fun x=>[D.sc (.int .i64 x)]:=by
  rw[List.take_of_length_le (by simp),List.map_drop]
 refine fn_ok func6 rfl ntmps6 results6 rfl 0 134217487 (by simp) (by simp) ?_
 simp only[zX,Nat.reduceShiftRight,Nat.reduceMod,Nat.reduceLT,Nat.reduceMul,Nat.reduceSub,Int.reduceToNat,Int.reduceNeg,Int.reduceLT,Int.reduceLE,Int.reduceEq,Nat.reduceEqDiff,Nat.reduceAdd,Nat.reduceLeDiff,reduceIte,reduceCtorEq,Nat.reduceBEq,i64,bV,iD,bD,Mat.v,intsD,killO,List.length_map,List.set_cons_zero,List.set_cons_succ,List.length_cons,List.length_nil,List.cons_append,List.nil_append,ne_eq,not_true_eq_false,not_false_eq_true,Bool.not_false,Bool.not_true,gt_iff_lt,decide_true]
 refine call_pure hfit rfl rfl ?_
 simp only[zX,Nat.reduceShiftRight,Nat.reduceMod,Nat.reduceLT,Nat.reduceMul,Nat.reduceSub,Int.reduceToNat,Int.reduceNeg,Int.reduceLT,Int.reduceLE,Int.reduceEq,Nat.reduceEqDiff,Nat.reduceAdd,Nat.reduceLeDiff,reduceIte,reduceCtorEq,Nat.reduceBEq,i64,bV,iD,bD,Mat.v,intsD,killO,List.length_map,List.set_cons_zero,List.set_cons_succ,List.length_cons,List.length_nil,List.cons_append,List.nil_append,ne_eq,not_true_eq_false,not_false_eq_true,Bool.not_false,Bool.not_true,gt_iff_lt,decide_true,wt]
 refine call_pure har rfl rfl ?_
 simp only[zX,Nat.reduceShiftRight,Nat.reduceMod,Nat.reduceLT,Nat.reduceMul,Nat.reduceSub,Int.reduceToNat,Int.reduceNeg,Int.reduceLT,Int.reduceLE,Int.reduceEq,Nat.reduceEqDiff,Nat.reduceAdd,Nat.reduceLeDiff,reduceIte,reduceCtorEq,Nat.reduceBEq,i64,bV,iD,bD,Mat.v,intsD,killO,List.length_map,List.set_cons_zero,List.set_cons_succ,List.length_cons,List.length_nil,List.cons_append,List.nil_append,ne_eq,not_true_eq_false,not_false_eq_true,Bool.not_false,Bool.not_true,gt_iff_lt,decide_true]
 refine call_pure kA rfl rfl ?_
 simp only[zX,Nat.reduceShiftRight,Nat.reduceMod,Nat.reduceLT,Nat.reduceMul,Nat.reduceSub,Int.reduceToNat,Int.reduceNeg,Int.reduceLT,Int.reduceLE,Int.reduceEq,Nat.reduceEqDiff,Nat.reduceAdd,Nat.reduceLeDiff,reduceIte,reduceCtorEq,Nat.reduceBEq,i64,bV,iD,bD,Mat.v,intsD,killO,List.length_map,List.set_cons_zero,List.set_cons_succ,List.length_cons,List.length_nil,List.cons_append,List.nil_append,ne_eq,not_true_eq_false,not_false_eq_true,Bool.not_false,Bool.not_true,gt_iff_lt,decide_true]
 refine draw_c mix [] [] (by rfl) ?_
 simp only[zX,Nat.reduceShiftRight,Nat.reduceMod,Nat.reduceLT,Nat.reduceMul,Nat.reduceSub,Int.reduceToNat,Int.reduceNeg,Int.reduceLT,Int.reduceLE,Int.reduceEq,Nat.reduceEqDiff,Nat.reduceAdd,Nat.reduceLeDiff,reduceIte,reduceCtorEq,Nat.reduceBEq,i64,bV,iD,bD,Mat.v,intsD,killO,List.length_map,List.set_cons_zero,List.set_cons_succ,List.length_cons,List.length_nil,List.cons_append,List.nil_append,ne_eq,not_true_eq_false,not_false_eq_true,Bool.not_false,Bool.not_true,gt_iff_lt,decide_true]
 refine⟨⟨by omega,by omega⟩,?_⟩
 refine⟨.inr (fun e he=>by obtain⟨y,_,rfl⟩:=List.mem_map.1 he; rfl),?_⟩
 rw[tk]
 refine callC_pure kB rfl rfl ?_
 simp only[zX,Nat.reduceShiftRight,Nat.reduceMod,Nat.reduceLT,Nat.reduceMul,Nat.reduceSub,Int.reduceToNat,Int.reduceNeg,Int.reduceLT,Int.reduceLE,Int.reduceEq,Nat.reduceEqDiff,Nat.reduceAdd,Nat.reduceLeDiff,reduceIte,reduceCtorEq,Nat.reduceBEq,i64,bV,iD,bD,Mat.v,intsD,killO,List.length_map,List.set_cons_zero,List.set_cons_succ,List.length_cons,List.length_nil,List.cons_append,List.nil_append,ne_eq,not_true_eq_false,not_false_eq_true,Bool.not_false,Bool.not_true,gt_iff_lt,decide_true]
 refine call_pure har2 rfl rfl ?_
 simp only[zX,Nat.reduceShiftRight,Nat.reduceMod,Nat.reduceLT,Nat.reduceMul,Nat.reduceSub,Int.reduceToNat,Int.reduceNeg,Int.reduceLT,Int.reduceLE,Int.reduceEq,Nat.reduceEqDiff,Nat.reduceAdd,Nat.reduceLeDiff,reduceIte,reduceCtorEq,Nat.reduceBEq,i64,bV,iD,bD,Mat.v,intsD,killO,List.length_map,List.set_cons_zero,List.set_cons_succ,List.length_cons,List.length_nil,List.cons_append,List.nil_append,ne_eq,not_true_eq_false,not_false_eq_true,Bool.not_false,Bool.not_true,gt_iff_lt,decide_true,Int.toNat_natCast]
 refine⟨⟨Int.le_refl _,by omega,by omega⟩,?_⟩
 refine call_give [1] ?_ (call_pure hsp rfl rfl ?_)
 ·simp only[frzV.go]
  rw[frz_ag3 (frz_ownK (live:=false) (sz:=1) (els:=List.replicate n [V.d (D.sc (.int .i64 0))]) (ds:=(List.replicate n 0).map fun x=>[D.sc (.int .i64 x)]) rfl (by rw[List.drop_zero,List.take_of_length_le (by simp)]; simp) (by simp) (.inr rfl))]
  rfl
 simp only[zX,Nat.reduceShiftRight,Nat.reduceMod,Nat.reduceLT,Nat.reduceMul,Nat.reduceSub,Int.reduceToNat,Int.reduceNeg,Int.reduceLT,Int.reduceLE,Int.reduceEq,Nat.reduceEqDiff,Nat.reduceAdd,Nat.reduceLeDiff,reduceIte,reduceCtorEq,Nat.reduceBEq,i64,bV,iD,bD,Mat.v,intsD,killO,List.length_map,List.set_cons_zero,List.set_cons_succ,List.length_cons,List.length_nil,List.cons_append,List.nil_append,ne_eq,not_true_eq_false,not_false_eq_true,Bool.not_false,Bool.not_true,gt_iff_lt,decide_true,kill1,List.getElem?_cons_zero,List.getElem?_cons_succ]
 refine call_pure kC rfl rfl ?_
 simp only[zX,Nat.reduceShiftRight,Nat.reduceMod,Nat.reduceLT,Nat.reduceMul,Nat.reduceSub,Int.reduceToNat,Int.reduceNeg,Int.reduceLT,Int.reduceLE,Int.reduceEq,Nat.reduceEqDiff,Nat.reduceAdd,Nat.reduceLeDiff,reduceIte,reduceCtorEq,Nat.reduceBEq,i64,bV,iD,bD,Mat.v,intsD,killO,List.length_map,List.set_cons_zero,List.set_cons_succ,List.length_cons,List.length_nil,List.cons_append,List.nil_append,ne_eq,not_true_eq_false,not_false_eq_true,Bool.not_false,Bool.not_true,gt_iff_lt,decide_true,Int.lt_irrefl,List.length_map,hBA,hCA]
 obtain⟨N,hN⟩:∃N,N=A.length:=⟨_,rfl⟩
 rw[← hN] at hBA hCA hA7
 refine call_dup' (by omega) (fun y hy=>by have:=(hBm y hy).l; omega) rfl (fun g1 S1 hl1 hs1 hd1=>?_)
 simp only[List.length_cons,List.length_nil,Nat.reduceAdd,hBA] at hl1 hd1
 have hz1:=hs1 1 _ rfl
 simp only[zX,Nat.reduceShiftRight,Nat.reduceMod,Nat.reduceLT,Nat.reduceMul,Nat.reduceSub,Int.reduceToNat,Int.reduceNeg,Int.reduceLT,Int.reduceLE,Int.reduceEq,Nat.reduceEqDiff,Nat.reduceAdd,Nat.reduceLeDiff,reduceIte,reduceCtorEq,Nat.reduceBEq,i64,bV,iD,bD,Mat.v,intsD,killO,List.length_map,List.set_cons_zero,List.set_cons_succ,List.length_cons,List.length_nil,List.cons_append,List.nil_append,ne_eq,not_true_eq_false,not_false_eq_true,Bool.not_false,Bool.not_true,gt_iff_lt,decide_true,hBA]
 refine call_dup' (by omega) (fun y hy=>by have:=(hCm y hy).l; omega) rfl (fun g2 S2 hl2 hs2 hd2=>?_)
 have hd1:=hd1.later hs2
 have hz1:=hs2 _ _ hz1
 rw[hl1] at hd2
 clear hs1 hs2 hl2
 rw[hl1]
 simp only[zX,Nat.reduceShiftRight,Nat.reduceMod,Nat.reduceLT,Nat.reduceMul,Nat.reduceSub,Int.reduceToNat,Int.reduceNeg,Int.reduceLT,Int.reduceLE,Int.reduceEq,Nat.reduceEqDiff,Nat.reduceAdd,Nat.reduceLeDiff,reduceIte,reduceCtorEq,Nat.reduceBEq,i64,bV,iD,bD,Mat.v,intsD,killO,List.length_map,List.set_cons_zero,List.set_cons_succ,List.length_cons,List.length_nil,List.cons_append,List.nil_append,ne_eq,not_true_eq_false,not_false_eq_true,Bool.not_false,Bool.not_true,gt_iff_lt,decide_true,hCA]
 refine loop_rule (fun k e S=>∃i:Nat,k=N - i∧i≤N∧e 11=i64 x∧e 12=.d (.sl (A.map matD))∧e 18=.so 1 0 0 n∧e 24=.so 2 g1 0 N∧e 25=.so (3 + N) g2 0 N∧e 26=i64 i ∧
   S[1]?=some ⟨0,false,1,List.replicate n [V.d (D.sc (.int .i64 0))]⟩∧DupAt S 2 g1 3 (movN x B i)∧DupAt S (3 + N) g2 (4 + N) (movN ((x:Int) - n) C i))
  ⟨_,_,_,Cln.refl,0,rfl,by omega,rfl,rfl,rfl,rfl,?_,rfl,hz1,?_,?_⟩ ?_
 ·show V.so _ _ _ _=_
  congr 1
 ·rw[movN_zero]; exact hd1
 ·rw[movN_zero]
  rwa [show 2 + 1 + N=3 + N by omega,show 3 + N + 1=4 + N by omega] at hd2
 rintro k e S ⟨i,rfl,hi,h11,h12,h18,h24,h25,h26,hz,hdB,hdC⟩
 rcases Nat.lt_or_ge i N with hlt | hge
 ·obtain⟨b,hb⟩:∃b,B[i]?=some b:=⟨_,List.getElem?_eq_getElem (by omega)⟩
  obtain⟨c,hc⟩:∃c,C[i]?=some c:=⟨_,List.getElem?_eq_getElem (by omega)⟩
  have hbm:=hBm b (List.mem_of_getElem? hb)
  have hcm:=hCm c (List.mem_of_getElem? hc)
  have hlt':(i:Int) < (N:Int):=by omega
  have hi0:(0:Int)≤(i:Int):=by omega
  have hzo:S[2]?=some ⟨g1,true,3,dupE 3 (movN x B i)⟩:=hdB.out
  have hgB:(dupE 3 (movN x B i))[i]?=some [i64 b.s,i64 b.e,.so (3 + i) 1 0 b.c.length]:=by rw[dupE_get,movN_get hb]; rfl
  have hlB:(dupE 3 (movN x B i)).length=N:=by rw[dupE_len,movN_len,hBA]
  have hcB:S[3 + i]?=some (capO 1 b.c):=hdB.caps i b (movN_get hb)
  simp only[zX,Nat.reduceShiftRight,Nat.reduceMod,Nat.reduceLT,Nat.reduceMul,Nat.reduceSub,Int.reduceToNat,Int.reduceNeg,Int.reduceLT,Int.reduceLE,Int.reduceEq,Nat.reduceEqDiff,Nat.reduceAdd,Nat.reduceLeDiff,reduceIte,reduceCtorEq,Nat.reduceBEq,i64,bV,iD,bD,Mat.v,intsD,killO,List.length_map,List.set_cons_zero,List.set_cons_succ,List.length_cons,List.length_nil,List.cons_append,List.nil_append,ne_eq,not_true_eq_false,not_false_eq_true,Bool.not_false,Bool.not_true,gt_iff_lt,decide_true,h11,h12,h18,h24,h25,h26,hlt',hzo,hlB,hlt,hi0,hgB,Int.toNat_natCast,Nat.zero_add]
  refine call_map (r':=.ag [i64 (b.s + x),i64 (b.e + x),.so (3 + i) 1 0 b.c.length]) [3 + i] (shift_ok 1 b.s b.e x b.c (by have:=hbm.l; omega) (by have:=hbm.s; omega) (by have:=hbm.e; omega) (by omega) hbm.c) (by simp) rfl (by simp only[List.map_cons,List.map_nil,hcB,ren_capO]) rfl rfl (by simp only[List.all_cons,List.all_nil,obj_capO,Bool.and_true]) rfl ?_
  simp only[List.map_cons,List.map_nil,ren_capO,putObjs]
  have mB:=hdB.move (δ:=x) hb (.inl (by omega))
  have mC:DupAt ((S.set (3 + i) (capO 1 (mvC x b.c))).set 2 ⟨g1,true,3,(dupE 3 (movN x B i)).set i [i64 (b.s + x),i64 (b.e + x),.so (3 + i) 1 0 b.c.length]⟩) (3 + N) g2 (4 + N) (movN ((x:Int) - n) C i) :=
   (hdC.other (by omega) (.inl (by omega))).other (by omega) (.inl (by omega))
  have hzT:((S.set (3 + i) (capO 1 (mvC x b.c))).set 2 ⟨g1,true,3,(dupE 3 (movN x B i)).set i [i64 (b.s + x),i64 (b.e + x),.so (3 + i) 1 0 b.c.length]⟩)[1]?=some ⟨0,false,1,List.replicate n [V.d (D.sc (.int .i64 0))]⟩:=by
   rw[List.getElem?_set_ne (by omega),List.getElem?_set_ne (by omega)]
   exact hz
  have hq2:(S.set (3 + i) (capO 1 (mvC x b.c)))[2]?=some ⟨g1,true,3,dupE 3 (movN x B i)⟩:=by
   rw[List.getElem?_set_ne (by omega)]
   exact hzo
  generalize S.set (3 + i) (capO 1 (mvC x b.c))=S' at *
  simp only[i64] at mB mC hzT
  have hT2:=mC.out
  have hgC:(dupE (4 + N) (movN ((x:Int) - n) C i))[i]?=some [i64 c.s,i64 c.e,.so (4 + N + i) 1 0 c.c.length]:=by rw[dupE_get,movN_get hc]; rfl
  have hlC:(dupE (4 + N) (movN ((x:Int) - n) C i)).length=N:=by rw[dupE_len,movN_len,hCA]
  have hcC:=mC.caps i c (movN_get hc)
  simp only[zX,Nat.reduceShiftRight,Nat.reduceMod,Nat.reduceLT,Nat.reduceMul,Nat.reduceSub,Int.reduceToNat,Int.reduceNeg,Int.reduceLT,Int.reduceLE,Int.reduceEq,Nat.reduceEqDiff,Nat.reduceAdd,Nat.reduceLeDiff,reduceIte,reduceCtorEq,Nat.reduceBEq,i64,bV,iD,bD,Mat.v,intsD,killO,List.length_map,List.set_cons_zero,List.set_cons_succ,List.length_cons,List.length_nil,List.cons_append,List.nil_append,ne_eq,not_true_eq_false,not_false_eq_true,Bool.not_false,Bool.not_true,gt_iff_lt,decide_true,h11,h12,h18,h24,h25,h26,hlt',hq2,hlB,hlC,hlt,hi0,hgB,hgC,hT2,hzT,Int.toNat_natCast,Nat.zero_add]
  have wxn:IntKind.i64.wrap ((x:Int) - n)=(x:Int) - n:=w64 _ (by omega)
  rw[wxn]
  refine call_map (r':=.ag [i64 (c.s + (x - n)),i64 (c.e + (x - n)),.so (4 + N + i) 1 0 c.c.length]) [4 + N + i] (shift_ok 1 c.s c.e ((x:Int) - n) c.c (by have:=hcm.l; omega) (by have:=hcm.s; omega) (by have:=hcm.e; omega) (by omega) hcm.c) (by simp) rfl (by simp only[List.map_cons,List.map_nil,hcC,ren_capO]) rfl rfl (by simp only[List.all_cons,List.all_nil,obj_capO,Bool.and_true]) rfl ?_
  simp only[List.map_cons,List.map_nil,ren_capO,putObjs]
  generalize S'.set 2 ⟨g1,true,3,(dupE 3 (movN x B i)).set i [V.d (D.sc (.int .i64 (b.s + x))),V.d (D.sc (.int .i64 (b.e + x))),.so (3 + i) 1 0 b.c.length]⟩=T at *
  have nC:=mC.move (δ:=(x:Int) - n) hc (.inl (by omega))
  have nB:DupAt ((T.set (4 + N + i) (capO 1 (mvC ((x:Int) - n) c.c))).set (3 + N) ⟨g2,true,3,(dupE (4 + N) (movN ((x:Int) - n) C i)).set i [i64 (c.s + (x - n)),i64 (c.e + (x - n)),.so (4 + N + i) 1 0 c.c.length]⟩) 2 g1 3 (movN x B (i + 1)) :=
   (mB.other (by omega) (.inr (by rw[movN_len]; omega))).other (by omega) (.inr (by rw[movN_len]; omega))
  have hzU:((T.set (4 + N + i) (capO 1 (mvC ((x:Int) - n) c.c))).set (3 + N) ⟨g2,true,3,(dupE (4 + N) (movN ((x:Int) - n) C i)).set i [i64 (c.s + (x - n)),i64 (c.e + (x - n)),.so (4 + N + i) 1 0 c.c.length]⟩)[1]?=some ⟨0,false,1,List.replicate n [V.d (D.sc (.int .i64 0))]⟩:=by
   rw[List.getElem?_set_ne (by omega),List.getElem?_set_ne (by omega)]
   exact hzT
  have hq3:(T.set (4 + N + i) (capO 1 (mvC ((x:Int) - n) c.c)))[3 + N]?=some ⟨g2,true,3,dupE (4 + N) (movN ((x:Int) - n) C i)⟩:=by
   rw[List.getElem?_set_ne (by omega)]
   exact hT2
  generalize T.set (4 + N + i) (capO 1 (mvC ((x:Int) - n) c.c))=T' at *
  simp only[i64] at nB nC hzU
  simp only[zX,Nat.reduceShiftRight,Nat.reduceMod,Nat.reduceLT,Nat.reduceMul,Nat.reduceSub,Int.reduceToNat,Int.reduceNeg,Int.reduceLT,Int.reduceLE,Int.reduceEq,Nat.reduceEqDiff,Nat.reduceAdd,Nat.reduceLeDiff,reduceIte,reduceCtorEq,Nat.reduceBEq,i64,bV,iD,bD,Mat.v,intsD,killO,List.length_map,List.set_cons_zero,List.set_cons_succ,List.length_cons,List.length_nil,List.cons_append,List.nil_append,ne_eq,not_true_eq_false,not_false_eq_true,Bool.not_false,Bool.not_true,gt_iff_lt,decide_true,h11,h12,h18,h24,h25,h26,hlt',hq3,hlC,hlt,hi0,hgC,Int.toNat_natCast,Nat.zero_add]
  refine⟨N - (i + 1),_,_,by omega,Cln.refl,i + 1,rfl,hlt,?_,?_,?_,?_,?_,?_,hzU,nB,nC⟩ <;> (try simp only[zU,Nat.reduceBEq,Nat.reduceShiftRight,Nat.reduceMod,Nat.reduceEqDiff,reduceIte])
  ·exact h11
  ·exact h12
  ·exact h18
  ·exact h24
  ·exact h25
  ·rw[w64 _ (by omega)]; rfl
 ·have hiN:i=N:=by omega
  subst hiN
  have eB:movN x B i=A:=by rw[← hBx,← movN_all,hBA]
  have eC:movN ((x:Int) - n) C i=A:=by rw[← hCx,← movN_all,hCA]
  rw[eB] at hdB
  rw[eC] at hdC
  have hzo:S[2]?=some ⟨g1,true,3,dupE 3 A⟩:=hdB.out
  have heq:=equals_refl A (by omega) (fun y hy=>by have:=hAc y hy; omega)
  simp only[bV] at heq
  have f1:frzV (killO S (2::List.range' 3 i)).length (killO S (2::List.range' 3 i)) (.so 2 g1 0 i)=some (.d (.sl (A.map matD))):=by
   have:=hdB.frz (lim:=(killO S (2::List.range' 3 i)).length) (ids:=2::List.range' 3 i) (by simp) (fun j hj=>by simp; omega)
   rwa [← hN] at this
  have hdC':=hdC.kill (ids:=2::List.range' 3 i) (by simp; omega) (fun j hj=>by simp; omega)
  have f2:frzV (killO (killO S (2::List.range' 3 i)) ((3 + i)::List.range' (4 + i) i)).length (killO (killO S (2::List.range' 3 i)) ((3 + i)::List.range' (4 + i) i)) (.so (3 + i) g2 0 i)=some (.d (.sl (A.map matD))):=by
   have:=hdC'.frz (lim:=(killO (killO S (2::List.range' 3 i)) ((3 + i)::List.range' (4 + i) i)).length) (ids:=(3 + i)::List.range' (4 + i) i) (by simp) (fun j hj=>by simp; omega)
   rwa [← hN] at this
  simp only[zX,Nat.reduceShiftRight,Nat.reduceMod,Nat.reduceLT,Nat.reduceMul,Nat.reduceSub,Int.reduceToNat,Int.reduceNeg,Int.reduceLT,Int.reduceLE,Int.reduceEq,Nat.reduceEqDiff,Nat.reduceAdd,Nat.reduceLeDiff,reduceIte,reduceCtorEq,Nat.reduceBEq,i64,bV,iD,bD,Mat.v,intsD,killO,List.length_map,List.set_cons_zero,List.set_cons_succ,List.length_cons,List.length_nil,List.cons_append,List.nil_append,ne_eq,not_true_eq_false,not_false_eq_true,Bool.not_false,Bool.not_true,gt_iff_lt,decide_true,h11,h12,h18,h24,h25,h26,hzo,Int.lt_irrefl]
  refine call_give (2::List.range' 3 i) (cargs:=[.d (.sl (A.map matD)),.d (.sl (A.map matD))]) ?_ (call_pure heq rfl rfl ?_)
  ·simp only[frzV.go,f1]
   simp only[frzV]
  clear f1
  generalize killO S (2::List.range' 3 i)=S3 at *
  simp only[zX,Nat.reduceShiftRight,Nat.reduceMod,Nat.reduceLT,Nat.reduceMul,Nat.reduceSub,Int.reduceToNat,Int.reduceNeg,Int.reduceLT,Int.reduceLE,Int.reduceEq,Nat.reduceEqDiff,Nat.reduceAdd,Nat.reduceLeDiff,reduceIte,reduceCtorEq,Nat.reduceBEq,i64,bV,iD,bD,Mat.v,intsD,killO,List.length_map,List.set_cons_zero,List.set_cons_succ,List.length_cons,List.length_nil,List.cons_append,List.nil_append,ne_eq,not_true_eq_false,not_false_eq_true,Bool.not_false,Bool.not_true,gt_iff_lt,decide_true,h11,h12,h18,h24,h25,h26]
  refine call_give ((3 + i)::List.range' (4 + i) i) (cargs:=[.d (.sl (A.map matD)),.d (.sl (A.map matD))]) ?_ (call_pure heq rfl rfl ?_)
  ·simp only[frzV.go,f2]
   simp only[frzV]
  simp only[zX,Nat.reduceShiftRight,Nat.reduceMod,Nat.reduceLT,Nat.reduceMul,Nat.reduceSub,Int.reduceToNat,Int.reduceNeg,Int.reduceLT,Int.reduceLE,Int.reduceEq,Nat.reduceEqDiff,Nat.reduceAdd,Nat.reduceLeDiff,reduceIte,reduceCtorEq,Nat.reduceBEq,i64,bV,iD,bD,Mat.v,intsD,killO,List.length_map,List.set_cons_zero,List.set_cons_succ,List.length_cons,List.length_nil,List.cons_append,List.nil_append,ne_eq,not_true_eq_false,not_false_eq_true,Bool.not_false,Bool.not_true,gt_iff_lt,decide_true]
  refine call_pure hlv rfl rfl ?_
  simp only[zX,Nat.reduceShiftRight,Nat.reduceMod,Nat.reduceLT,Nat.reduceMul,Nat.reduceSub,Int.reduceToNat,Int.reduceNeg,Int.reduceLT,Int.reduceLE,Int.reduceEq,Nat.reduceEqDiff,Nat.reduceAdd,Nat.reduceLeDiff,reduceIte,reduceCtorEq,Nat.reduceBEq,i64,bV,iD,bD,Mat.v,intsD,killO,List.length_map,List.set_cons_zero,List.set_cons_succ,List.length_cons,List.length_nil,List.cons_append,List.nil_append,ne_eq,not_true_eq_false,not_false_eq_true,Bool.not_false,Bool.not_true,gt_iff_lt,decide_true]
end Go.Proofs.Ytllagoeijcjpiaa
