/- A part of the proof (MM33). -/
import Derived.Test.YtpppfpaalcbggaaML49
set_option linter.unusedSimpArgs false
set_option linter.unusedVariables false
set_option maxRecDepth 100000
set_option maxHeartbeats 80000000
namespace Go.Proofs.Ytpppfpaalcbggaa
open Go.VL
def asE (n i:Nat):List (List V):=List.replicate i [i64 97]++List.replicate (n - i) [i64 0]
theorem asE_len {n i:Nat} (h:i≤n):(asE n i).length=n:=by simp [asE]; omega
theorem asE_set {n i:Nat} (h:i < n):(asE n i).set i [i64 97]=asE n (i + 1):=by
 unfold asE
 rw[List.set_append_right _ _ (by simp),List.length_replicate,Nat.sub_self,show n - i=(n - (i + 1)) + 1 by omega,List.replicate_succ,List.set_cons_zero,List.replicate_succ',List.append_assoc]
 rfl
theorem asE_get {n i:Nat} (h:i < n):(asE n i)[0 + i]?=some [i64 0]:=by
 unfold asE
 rw[Nat.zero_add,List.getElem?_append_right (by simp),List.length_replicate,Nat.sub_self,List.getElem?_replicate,if_pos (by omega)]
theorem asE_zero (n:Nat):asE n 0=List.replicate n [i64 0]:=by simp [asE]
theorem asE_all (n:Nat):asE n n=((asT n).map fun x=>[iD x]).map (fun c=>c.map V.d):=by simp [asE,asT,i64,iD]
theorem as_frz {s:List VL.Obj} {lim n:Nat} (h:s[0]?=some ⟨0,false,1,asE n n⟩):frzV lim s (.so 0 0 0 n)=some (.d (intsD (asT n))):=by
 unfold frzV frzD
 rw[h]
 simp only
 rw[if_pos ⟨trivial,by rw[asE_len (Nat.le_refl n)]; omega,.inr trivial⟩,List.drop_zero,List.take_of_length_le (by rw[asE_len (Nat.le_refl n)]; exact Nat.le_refl _),asE_all,mapM_frzE]
 rfl
theorem frz9_slot {e:VL.Env} {s:List VL.Obj} (ids:List Nat) (t:Nat) {v:V} (h:frzV (killO s ids).length (killO s ids) (e t)=some v):Cln0 e s (updE e t v) (killO s ids):=by
 have hc:=Cln0.freeze (e:=e) (s:=s) ids [t]
 have he:freezeE (killO s ids) [t] e=updE e t v:=by
  funext x
  unfold freezeE updE
  by_cases hx:x=t
  ·subst hx; simp [cleanV,h]
  ·simp [hx]
 rwa [he] at hc
theorem fst_ok {n:Nat} (hn:n≤40):∃k:Int,0≤k∧k≤6 * n + 6∧PureOK Try.prog 12 [.ag ((patC livM).map .d),.d (intsD (asT n)),i64 0,i64 1048576] (runMV (none,k,0)):=by
 obtain⟨k,h1,h2⟩:=fst_in hn
 have hl:=asT_len n
 have hN:(n:Int)=(asT n).length:=by omega
 have hc:checkM livM (asT n) 0 1048576=0:=by
  unfold checkM
  rw[if_neg (by decide),if_neg (by omega),if_neg,if_neg (by decide),if_neg (by omega)]
  rw[List.any_eq_true]
  rintro ⟨x,hx,hb⟩
  rw[(List.mem_replicate.1 hx).2] at hb
  revert hb
  decide
 obtain⟨j,hj⟩:=numK_ok (n:=16) (k:=k) hN (by omega) (fun i h0 h1=>asT_at h0 h1) hc (by decide) (by rw[fst_num]; exact h1)
 exact⟨k,by omega,by omega,memoRun_ok j livM (asT n) 0 1048576 livM_ok.1 livM_ok.2.1 (by decide) (by omega) hj⟩
theorem sec_ok {n:Nat} (hn:n≤40):∃k:Int,0≤k∧k≤8 * ((n:Int) + 1) * (n + 1)∧PureOK Try.prog 12 [.ag ((patC secM).map .d),.d (intsD (asT n)),i64 0,i64 1048576] (runMV (none,k,0)):=by
 obtain⟨k,h1,h2⟩:=sec_in hn
 have hl:=asT_len n
 have hN:(n:Int)=(asT n).length:=by omega
 have hc:checkM secM (asT n) 0 1048576=0:=by
  unfold checkM
  rw[if_neg (by decide),if_neg (by omega),if_neg,if_neg (by decide),if_neg (by omega)]
  rw[List.any_eq_true]
  rintro ⟨x,hx,hb⟩
  rw[(List.mem_replicate.1 hx).2] at hb
  revert hb
  decide
 obtain⟨j,hj⟩:=numK_ok (n:=16) (k:=k) hN (by omega) (fun i h0 h1=>asT_at h0 h1) hc (by decide) (by rw[sec_num]; exact h1)
 exact⟨k,by omega,by exact_mod_cast h2,memoRun_ok j secM (asT n) 0 1048576 (by decide +kernel) (by decide +kernel) (by decide) (by omega) hj⟩
theorem two_pos (n:Nat):(1:Int)≤2 ^ n:=Int.pow_pos (by decide)
theorem shl_one {n:Nat} (h:n≤12):shV .shl .i64 1 (n:Int)=2 ^ n:=by
 have p1:(2:Int) ^ n≤4096:=by
  have h:(2:Nat) ^ n≤2 ^ 12:=Nat.pow_le_pow_right (by decide) h
  have:((2 ^ n:Nat):Int)≤((2 ^ 12:Nat):Int):=Int.ofNat_le.2 h
  simpa using this
 have p0:=two_pos n
 unfold shV
 simp only
 rw[Int.toNat_natCast,Nat.min_eq_left (show n≤IntKind.i64.bits from Nat.le_trans (show n≤64 by omega) (by decide)),Int.one_mul]
 exact w64 _ (by omega)
theorem memoLinear_ok (len:Int) (hlen:I64 len):PureOK Try.prog 5 [i64 len] (bV true):=by
 have hau:=around_ok len 41 (by omega) hlen
 have hiu:=around_in len 41 (by omega) hlen
 generalize around len 41=n0 at *
 obtain⟨n,rfl⟩:∃n:Nat,n0=(n:Int):=⟨n0.toNat,by omega⟩
 have hn:n≤40:=by omega
 obtain⟨k1,a0,a1,b1⟩:=fst_ok hn
 obtain⟨k2,c0,c1,b2⟩:=sec_ok hn
 have l1:=lset_ok 97
 have l2:=lset_ok 98
 rw[reV_eq] at l1 l2
 simp only[lsR,Re.op,Re.set,Re.kids,Re.mn,Re.mx,Re.mode,Re.n,Re.neg,List.map_cons,List.map_nil,spanC,iD,bD] at l1 l2
 have hlv:=lives9_ok
 have w1:IntKind.i64.wrap (6 * (n:Int))=6 * n:=w64 _ (by omega)
 have w2:IntKind.i64.wrap (6 * (n:Int) + 6)=6 * n + 6:=w64 _ (by omega)
 have w3:IntKind.i64.wrap ((n:Int) + 1)=n + 1:=w64 _ (by omega)
 have w4:IntKind.i64.wrap (8 * ((n:Int) + 1))=8 * (n + 1):=w64 _ (by omega)
 have hsq:8 * ((n:Int) + 1) * (n + 1)≤20000:=by
  have h1:(n:Int) + 1≤41:=by omega
  have h2:=Int.mul_le_mul h1 h1 (by omega) (by omega)
  have h3:8 * ((n:Int) + 1) * (n + 1)=8 * (((n:Int) + 1) * (n + 1)):=Int.mul_assoc ..
  omega
 have w5:IntKind.i64.wrap (8 * ((n:Int) + 1) * (n + 1))=8 * ((n:Int) + 1) * (n + 1):=w64 _ (by omega)
 have n1:¬k1 > 6 * (n:Int) + 6:=by omega
 have n2:k2≤8 * ((n:Int) + 1) * (n + 1):=c1
 refine fn_ok Try.func5 rfl Try.ntmps5 Try.results5 rfl 0 126717 (by simp) (by simp) ?_
 simp only[zX,Nat.reduceShiftRight,Nat.reduceMod,Nat.reduceLT,Nat.reduceMul,Nat.reduceSub,Int.reduceToNat,Int.reduceNeg,Int.reduceLT,Int.reduceLE,Int.reduceEq,Nat.reduceEqDiff,Nat.reduceAdd,Nat.reduceLeDiff,reduceIte,reduceCtorEq,Nat.reduceBEq,i64]
 refine call_pure hau rfl rfl ?_
 simp only[zX,Nat.reduceShiftRight,Nat.reduceMod,Nat.reduceLT,Nat.reduceMul,Nat.reduceSub,Int.reduceToNat,Int.reduceNeg,Int.reduceLT,Int.reduceLE,Int.reduceEq,Nat.reduceEqDiff,Nat.reduceAdd,Nat.reduceLeDiff,reduceIte,reduceCtorEq,Nat.reduceBEq,i64]
 refine⟨by omega,?_⟩
 refine loop_rule (fun m e s=>∃i:Nat,m=n - i∧i≤n∧e 3=i64 n∧e 4=.so 0 0 0 n∧e 5=i64 i∧s=[⟨0,true,1,asE n i⟩])
  ⟨_,_,_,Cln.refl,0,rfl,by omega,rfl,rfl,rfl,by rw[asE_zero]; rfl⟩ ?_
 rintro m e s ⟨i,rfl,hi,h3,h4,h5,rfl⟩
 rcases Nat.lt_or_ge i n with hlt | hge
 ·have hlt':(i:Int) < n:=by omega
  have w6:IntKind.i64.wrap ((i:Int) + 1)=i + 1:=w64 _ (by omega)
  simp only[zX,Nat.reduceShiftRight,Nat.reduceMod,Nat.reduceLT,Nat.reduceMul,Nat.reduceSub,Int.reduceToNat,Int.reduceNeg,Int.reduceLT,Int.reduceLE,Int.reduceEq,Nat.reduceEqDiff,Nat.reduceAdd,Nat.reduceLeDiff,reduceIte,reduceCtorEq,Nat.reduceBEq,i64,h3,h4,h5,hlt',asE_len hi,w6]
  rw[show (asE n i)[0 + i]?=some [i64 0] from asE_get hlt]
  refine⟨by decide,?_⟩
  simp only[Nat.zero_add]
  rw[show (asE n i).set i (V.d (D.sc (Value.int IntKind.i64 97))::List.drop 1 [i64 0])=asE n (i + 1) from asE_set hlt]
  refine⟨n - (i + 1),_,_,by omega,Cln.refl,i + 1,rfl,hlt,?_,?_,?_,rfl⟩ <;> (try simp only[zU,Nat.reduceBEq,Nat.reduceShiftRight,Nat.reduceMod,Nat.reduceEqDiff,reduceIte])
  ·exact h3
  ·exact h4
  ·rfl
 ·have hie:i=n:=by omega
  subst hie
  have hlt':¬(i:Int) < i:=by omega
  simp only[zX,Nat.reduceShiftRight,Nat.reduceMod,Nat.reduceLT,Nat.reduceMul,Nat.reduceSub,Int.reduceToNat,Int.reduceNeg,Int.reduceLT,Int.reduceLE,Int.reduceEq,Nat.reduceEqDiff,Nat.reduceAdd,Nat.reduceLeDiff,reduceIte,reduceCtorEq,Nat.reduceBEq,i64,h3,h4,h5,hlt']
  refine call_pure l1 rfl rfl ?_
  simp only[zX,Nat.reduceShiftRight,Nat.reduceMod,Nat.reduceLT,Nat.reduceMul,Nat.reduceSub,Int.reduceToNat,Int.reduceNeg,Int.reduceLT,Int.reduceLE,Int.reduceEq,Nat.reduceEqDiff,Nat.reduceAdd,Nat.reduceLeDiff,reduceIte,reduceCtorEq,Nat.reduceBEq,i64,bV,iD,bD]
  refine call_pure l1 rfl rfl ?_
  simp only[zX,Nat.reduceShiftRight,Nat.reduceMod,Nat.reduceLT,Nat.reduceMul,Nat.reduceSub,Int.reduceToNat,Int.reduceNeg,Int.reduceLT,Int.reduceLE,Int.reduceEq,Nat.reduceEqDiff,Nat.reduceAdd,Nat.reduceLeDiff,reduceIte,reduceCtorEq,Nat.reduceBEq,i64,bV,iD,bD,h3,h4]
  refine draw_first (frz9_slot [0] 4 (v:=.d (intsD (asT i))) (by exact(congrArg _ h4).trans (as_frz rfl))) ?_
  simp only[killO,kill1,List.getElem?_cons_zero,List.set_cons_zero]
  refine draw_first Cln0.reserve ?_
  refine draw_c mix [8] [(7,[2],[2])] (by rfl) ?_
  simp only[zX,Nat.reduceShiftRight,Nat.reduceMod,Nat.reduceLT,Nat.reduceMul,Nat.reduceSub,Int.reduceToNat,Int.reduceNeg,Int.reduceLT,Int.reduceLE,Int.reduceEq,Nat.reduceEqDiff,Nat.reduceAdd,Nat.reduceLeDiff,reduceIte,reduceCtorEq,Nat.reduceBEq,i64,bV,iD,bD,h3,h4]
  refine callC_pure l2 rfl rfl ?_
  simp only[zX,Nat.reduceShiftRight,Nat.reduceMod,Nat.reduceLT,Nat.reduceMul,Nat.reduceSub,Int.reduceToNat,Int.reduceNeg,Int.reduceLT,Int.reduceLE,Int.reduceEq,Nat.reduceEqDiff,Nat.reduceAdd,Nat.reduceLeDiff,reduceIte,reduceCtorEq,Nat.reduceBEq,i64,bV,iD,bD,h3,h4]
  refine call_told9 [.ag ((patC livM).map .d),.d (intsD (asT i)),i64 0,i64 1048576] rfl ?_
  refine call_pure b1 rfl rfl ?_
  by_cases h13:(i:Int) < 13
  rotate_left
  simp only[zX,Nat.reduceShiftRight,Nat.reduceMod,Nat.reduceLT,Nat.reduceMul,Nat.reduceSub,Int.reduceToNat,Int.reduceNeg,Int.reduceLT,Int.reduceLE,Int.reduceEq,Nat.reduceEqDiff,Nat.reduceAdd,Nat.reduceLeDiff,reduceIte,reduceCtorEq,Nat.reduceBEq,i64,bV,iD,bD,runMV,h3,n1,w1,w2,ne_eq,not_true_eq_false,decide_false,h13]
  rotate_left
  have b3:=linAll_ok (n:=i) (by omega)
  have hsh:=shl_one (n:=i) (by omega)
  have hp:=two_pos i
  have n3:¬10 * (2:Int) ^ i - 4 < 2 ^ i:=by omega
  simp only[zX,Nat.reduceShiftRight,Nat.reduceMod,Nat.reduceLT,Nat.reduceMul,Nat.reduceSub,Int.reduceToNat,Int.reduceNeg,Int.reduceLT,Int.reduceLE,Int.reduceEq,Nat.reduceEqDiff,Nat.reduceAdd,Nat.reduceLeDiff,reduceIte,reduceCtorEq,Nat.reduceBEq,i64,bV,iD,bD,runMV,h3,n1,w1,w2,ne_eq,not_true_eq_false,decide_false,h13]
  refine call_told9 [patV livM,.d (intsD (asT i)),i64 0,i64 1,i64 1048576] rfl ?_
  refine call_pure b3 rfl rfl ?_
  simp only[zX,Nat.reduceShiftRight,Nat.reduceMod,Nat.reduceLT,Nat.reduceMul,Nat.reduceSub,Int.reduceToNat,Int.reduceNeg,Int.reduceLT,Int.reduceLE,Int.reduceEq,Nat.reduceEqDiff,Nat.reduceAdd,Nat.reduceLeDiff,reduceIte,reduceCtorEq,Nat.reduceBEq,i64,bV,iD,bD,h3,hsh,n3,ne_eq,not_true_eq_false,decide_false]
  all_goals
   refine call_pure l1 rfl rfl ?_
   simp only[zX,Nat.reduceShiftRight,Nat.reduceMod,Nat.reduceLT,Nat.reduceMul,Nat.reduceSub,Int.reduceToNat,Int.reduceNeg,Int.reduceLT,Int.reduceLE,Int.reduceEq,Nat.reduceEqDiff,Nat.reduceAdd,Nat.reduceLeDiff,reduceIte,reduceCtorEq,Nat.reduceBEq,i64,bV,iD,bD,h3]
   refine draw_first Cln0.reserve ?_
   refine draw_c mix [8] [(7,[5],[5])] (by rfl) ?_
   simp only[zX,Nat.reduceShiftRight,Nat.reduceMod,Nat.reduceLT,Nat.reduceMul,Nat.reduceSub,Int.reduceToNat,Int.reduceNeg,Int.reduceLT,Int.reduceLE,Int.reduceEq,Nat.reduceEqDiff,Nat.reduceAdd,Nat.reduceLeDiff,reduceIte,reduceCtorEq,Nat.reduceBEq,i64,bV,iD,bD,h3]
   refine callC_pure l2 rfl rfl ?_
   simp only[zX,Nat.reduceShiftRight,Nat.reduceMod,Nat.reduceLT,Nat.reduceMul,Nat.reduceSub,Int.reduceToNat,Int.reduceNeg,Int.reduceLT,Int.reduceLE,Int.reduceEq,Nat.reduceEqDiff,Nat.reduceAdd,Nat.reduceLeDiff,reduceIte,reduceCtorEq,Nat.reduceBEq,i64,bV,iD,bD,h3]
   refine call_told9 [.ag ((patC secM).map .d),.d (intsD (asT i)),i64 0,i64 1048576] rfl ?_
   refine call_pure b2 rfl rfl ?_
   simp only[zX,Nat.reduceShiftRight,Nat.reduceMod,Nat.reduceLT,Nat.reduceMul,Nat.reduceSub,Int.reduceToNat,Int.reduceNeg,Int.reduceLT,Int.reduceLE,Int.reduceEq,Nat.reduceEqDiff,Nat.reduceAdd,Nat.reduceLeDiff,reduceIte,reduceCtorEq,Nat.reduceBEq,i64,bV,iD,bD,runMV,h3,n2,w3,w4,w5,ne_eq,not_true_eq_false,decide_false,decide_true,Bool.not_false,Bool.not_true]
   refine call_pure hlv rfl rfl ?_
   simp only[zX,Nat.reduceShiftRight,Nat.reduceMod,Nat.reduceLT,Nat.reduceMul,Nat.reduceSub,Int.reduceToNat,Int.reduceNeg,Int.reduceLT,Int.reduceLE,Int.reduceEq,Nat.reduceEqDiff,Nat.reduceAdd,Nat.reduceLeDiff,reduceIte,reduceCtorEq,Nat.reduceBEq,bV]
end Go.Proofs.Ytpppfpaalcbggaa
