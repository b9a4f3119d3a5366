/- A part of the proof (F98). -/
import Derived.Test.YtafbdphblilenaaAB37
import Derived.Test.YtafbdphblilenaaAB32
set_option linter.unusedSimpArgs false
set_option linter.unusedVariables false
set_option maxRecDepth 100000
set_option maxHeartbeats 80000000
set_option linter.unusedSimpArgs false
set_option linter.unusedVariables false
namespace Go.Proofs.Ytafbdphblilenaa
open Go.VL Go.Proofs.Try
theorem dec_fine {bs:List Nat} (hb:bs.length≤1000000000) (hB:∀b∈bs,b < 256) {re:Re} {s:Nat} {xs:List Nat} (h:rTree 24 0 (rB (rI bs 0).2.1 (rI bs 0).2.2).2.1 (rB (rI bs 0).2.1 (rI bs 0).2.2).2.2=(some re,s,xs,0)):re.fine=true:=by
 have s2:=rB_suf (rI bs 0).2.1 (rI bs 0).2.2
 have s1:=rI_suf bs 0
 have hs:=s2.trans s1
 generalize rB (rI bs 0).2.1 (rI bs 0).2.2=B at *
 have hw:=rTree_some h
 rw[hw] at h
 have hl:=hs.length_le
 exact small_fine (c:=1000000000) (by omega) re (rTree_small (c:=1000000000) (by omega) 24 0 s B.2.1 xs re (fun b hx=>hB b (hs.subset hx)) (by omega) h).1
theorem renWk {ρ:List Nat} (o:Option Re):renV ρ (wkV o)=wkV o:=by
 cases o with
 | none=>unfold wkV; simp only[renV,renV.go,renV_reV,bV]
 | some re=>unfold wkV; simp only[renV,renV.go,renV_reV,bV]
theorem zeroPatC:(patC zeroPat).map V.d=[i64 0,.d (.sl []),.d (.sl []),i64 0,i64 0,i64 0,i64 0,bV false,i64 0,bV false]:=by
 unfold patC zeroPat
 rw[Re.cells_eq]
 rfl
theorem decode_ok (bs:List Nat) (hb:bs.length≤1000000000) (hB:∀b∈bs,b < 256):PureOK prog 47 [.d (bytesD bs)] (.tu [.ag ((patC (decR bs).1).map .d),i64 (decR bs).2]):=by
 have k1:=rdInt_ok bs bs 0 (List.suffix_refl _) hb hB
 have s1:=rI_suf bs 0
 have hfine:=fun re s xs=>dec_fine (re:=re) (s:=s) (xs:=xs) hb hB
 unfold decR
 simp only
 generalize rI bs 0=C at *
 have k2:=rdBool_ok bs C.2.1 C.2.2 s1 hb
 have s2:=(rB_suf C.2.1 C.2.2).trans s1
 generalize rB C.2.1 C.2.2=B at *
 have k3:=walkD_ok bs hb hB 24 (by omega) B.2.1 B.2.2 0 s2 (by omega)
 have s3:=(rTree_suf 24 0 B.2.1 B.2.2).trans s2
 generalize rTree 24 0 B.2.1 B.2.2=T at *
 obtain⟨cn,cx,cw⟩:=C
 obtain⟨bn,bx,bw⟩:=B
 obtain⟨ot,sn,tx,tw⟩:=T
 simp only at k1 k2 k3 s1 s2 s3 hfine ⊢
 have k4:=rdEnd_ok bs tx tw s3 hb
 simp only[i64,bV] at k1 k2 k4
 have z1:IntKind.i64.wrap 0=0:=by decide
 cases ot with
 | none =>
  simp only[zeroPatC,i64,bV]
  refine fn_ok func47 rfl ntmps47 results47 rfl 0 1021 (by simp) (by simp) ?_
  simp only[zX,Nat.reduceShiftRight,Nat.reduceMod,Nat.reduceLT,Nat.reduceMul,Nat.reduceSub,Int.reduceToNat,Int.reduceNeg,Int.reduceLT,Int.reduceLE,Int.reduceEq,Nat.reduceEqDiff,Nat.reduceAdd,Nat.reduceLeDiff,reduceIte,reduceCtorEq,Nat.reduceBEq,i64]
  refine call_read hb ?_
  simp only[zX,Nat.reduceShiftRight,Nat.reduceMod,Nat.reduceLT,Nat.reduceMul,Nat.reduceSub,Int.reduceToNat,Int.reduceNeg,Int.reduceLT,Int.reduceLE,Int.reduceEq,Nat.reduceEqDiff,Nat.reduceAdd,Nat.reduceLeDiff,reduceIte,reduceCtorEq,Nat.reduceBEq,i64,List.length_cons,List.length_nil,List.cons_append,List.nil_append]
  refine call_at 1 (r':=.d (.sc (.int .i64 cn))) k1 rfl rfl rfl rfl rfl ?_
  simp only[zX,Nat.reduceShiftRight,Nat.reduceMod,Nat.reduceLT,Nat.reduceMul,Nat.reduceSub,Int.reduceToNat,Int.reduceNeg,Int.reduceLT,Int.reduceLE,Int.reduceEq,Nat.reduceEqDiff,Nat.reduceAdd,Nat.reduceLeDiff,reduceIte,reduceCtorEq,Nat.reduceBEq,i64,rdO_ren,List.set_cons_succ,List.set_cons_zero]
  refine call_at 1 (r':=.d (.sc (.bool bn))) k2 rfl rfl rfl rfl rfl ?_
  simp only[zX,Nat.reduceShiftRight,Nat.reduceMod,Nat.reduceLT,Nat.reduceMul,Nat.reduceSub,Int.reduceToNat,Int.reduceNeg,Int.reduceLT,Int.reduceLE,Int.reduceEq,Nat.reduceEqDiff,Nat.reduceAdd,Nat.reduceLeDiff,reduceIte,reduceCtorEq,Nat.reduceBEq,i64,rdO_ren,List.set_cons_succ,List.set_cons_zero]
  refine call_map [1,2,4,5] (r':=.tu [.ag ((Re.mk 0 [] [] 0 0 0 0 false).cells.map V.d),.d (.sc (.bool false))]) k3 (by decide) rfl rfl rfl rfl rfl (renWk none) ?_
  simp only[putObjs,List.map_cons,List.map_nil,rdO_ren,List.set_cons_succ,List.set_cons_zero,Re.cells_eq,renO,rbxO,dwkO,dszO,renV.go,renV,i64]
  simp only[zX,Nat.reduceShiftRight,Nat.reduceMod,Nat.reduceLT,Nat.reduceMul,Nat.reduceSub,Int.reduceToNat,Int.reduceNeg,Int.reduceLT,Int.reduceLE,Int.reduceEq,Nat.reduceEqDiff,Nat.reduceAdd,Nat.reduceLeDiff,reduceIte,reduceCtorEq,Nat.reduceBEq,i64]
 | some re =>
  have hE:rEnd tx tw=0→tw=0∧tx=[]:=by
   intro h
   unfold rEnd at h
   split at h
   ·rename_i hw; exact absurd h hw
   ·rename_i hw
    split at h
    ·rename_i hx; exact⟨by simpa using hw,hx⟩
    ·exact absurd h (by decide)
  by_cases hend:rEnd tx tw=0
  case neg =>
   have hn:¬(tw=0∧tx=[]∧validR ⟨re,cn,bn⟩=0):=by
    rintro ⟨rfl,rfl,_⟩
    exact hend rfl
   simp only[if_neg hn]
   generalize rEnd tx tw=ee at *
   simp only[zeroPatC,i64,bV]
   refine fn_ok func47 rfl ntmps47 results47 rfl 0 1021 (by simp) (by simp) ?_
   simp only[zX,Nat.reduceShiftRight,Nat.reduceMod,Nat.reduceLT,Nat.reduceMul,Nat.reduceSub,Int.reduceToNat,Int.reduceNeg,Int.reduceLT,Int.reduceLE,Int.reduceEq,Nat.reduceEqDiff,Nat.reduceAdd,Nat.reduceLeDiff,reduceIte,reduceCtorEq,Nat.reduceBEq,i64]
   refine call_read hb ?_
   simp only[zX,Nat.reduceShiftRight,Nat.reduceMod,Nat.reduceLT,Nat.reduceMul,Nat.reduceSub,Int.reduceToNat,Int.reduceNeg,Int.reduceLT,Int.reduceLE,Int.reduceEq,Nat.reduceEqDiff,Nat.reduceAdd,Nat.reduceLeDiff,reduceIte,reduceCtorEq,Nat.reduceBEq,i64,List.length_cons,List.length_nil,List.cons_append,List.nil_append]
   refine call_at 1 (r':=.d (.sc (.int .i64 cn))) k1 rfl rfl rfl rfl rfl ?_
   simp only[zX,Nat.reduceShiftRight,Nat.reduceMod,Nat.reduceLT,Nat.reduceMul,Nat.reduceSub,Int.reduceToNat,Int.reduceNeg,Int.reduceLT,Int.reduceLE,Int.reduceEq,Nat.reduceEqDiff,Nat.reduceAdd,Nat.reduceLeDiff,reduceIte,reduceCtorEq,Nat.reduceBEq,i64,rdO_ren,List.set_cons_succ,List.set_cons_zero]
   refine call_at 1 (r':=.d (.sc (.bool bn))) k2 rfl rfl rfl rfl rfl ?_
   simp only[zX,Nat.reduceShiftRight,Nat.reduceMod,Nat.reduceLT,Nat.reduceMul,Nat.reduceSub,Int.reduceToNat,Int.reduceNeg,Int.reduceLT,Int.reduceLE,Int.reduceEq,Nat.reduceEqDiff,Nat.reduceAdd,Nat.reduceLeDiff,reduceIte,reduceCtorEq,Nat.reduceBEq,i64,rdO_ren,List.set_cons_succ,List.set_cons_zero]
   refine call_map [1,2,4,5] (r':=.tu [.ag (re.cells.map V.d),.d (.sc (.bool true))]) k3 (by decide) rfl rfl rfl rfl rfl (renWk (some re)) ?_
   simp only[putObjs,List.map_cons,List.map_nil,rdO_ren,List.set_cons_succ,List.set_cons_zero,Re.cells_eq re,renO,rbxO,dwkO,dszO,renV.go,renV,i64,iD,bD]
   simp only[zX,Nat.reduceShiftRight,Nat.reduceMod,Nat.reduceLT,Nat.reduceMul,Nat.reduceSub,Int.reduceToNat,Int.reduceNeg,Int.reduceLT,Int.reduceLE,Int.reduceEq,Nat.reduceEqDiff,Nat.reduceAdd,Nat.reduceLeDiff,reduceIte,reduceCtorEq,Nat.reduceBEq,i64]
   refine call_at 1 (r':=.d (.sc (.int .i64 ee))) k4 rfl rfl rfl rfl rfl ?_
   simp only[zX,Nat.reduceShiftRight,Nat.reduceMod,Nat.reduceLT,Nat.reduceMul,Nat.reduceSub,Int.reduceToNat,Int.reduceNeg,Int.reduceLT,Int.reduceLE,Int.reduceEq,Nat.reduceEqDiff,Nat.reduceAdd,Nat.reduceLeDiff,reduceIte,reduceCtorEq,Nat.reduceBEq,i64,rdO_ren,List.set_cons_succ,List.set_cons_zero,hend,ne_eq,not_false_eq_true,decide_true]
  obtain⟨rfl,rfl⟩:=hE hend
  rw[hend] at k4
  have hf:=hfine re sn [] rfl
  have hv:=valid_ok ⟨re,cn,bn⟩ hf
  by_cases hval:validR ⟨re,cn,bn⟩=0
  ·have hc:(0:Int)=0∧([]:List Nat)=[]∧validR ⟨re,cn,bn⟩=0:=⟨rfl,rfl,hval⟩
   simp only[if_pos hc]
   rw[hval] at hv
   simp only[patC,Re.cells_eq re,iD,bD,i64,bV,List.map_cons,List.map_nil,List.cons_append,List.nil_append] at hv ⊢
   refine fn_ok func47 rfl ntmps47 results47 rfl 0 1021 (by simp) (by simp) ?_
   simp only[zX,Nat.reduceShiftRight,Nat.reduceMod,Nat.reduceLT,Nat.reduceMul,Nat.reduceSub,Int.reduceToNat,Int.reduceNeg,Int.reduceLT,Int.reduceLE,Int.reduceEq,Nat.reduceEqDiff,Nat.reduceAdd,Nat.reduceLeDiff,reduceIte,reduceCtorEq,Nat.reduceBEq,i64]
   refine call_read hb ?_
   simp only[zX,Nat.reduceShiftRight,Nat.reduceMod,Nat.reduceLT,Nat.reduceMul,Nat.reduceSub,Int.reduceToNat,Int.reduceNeg,Int.reduceLT,Int.reduceLE,Int.reduceEq,Nat.reduceEqDiff,Nat.reduceAdd,Nat.reduceLeDiff,reduceIte,reduceCtorEq,Nat.reduceBEq,i64,List.length_cons,List.length_nil,List.cons_append,List.nil_append]
   refine call_at 1 (r':=.d (.sc (.int .i64 cn))) k1 rfl rfl rfl rfl rfl ?_
   simp only[zX,Nat.reduceShiftRight,Nat.reduceMod,Nat.reduceLT,Nat.reduceMul,Nat.reduceSub,Int.reduceToNat,Int.reduceNeg,Int.reduceLT,Int.reduceLE,Int.reduceEq,Nat.reduceEqDiff,Nat.reduceAdd,Nat.reduceLeDiff,reduceIte,reduceCtorEq,Nat.reduceBEq,i64,rdO_ren,List.set_cons_succ,List.set_cons_zero]
   refine call_at 1 (r':=.d (.sc (.bool bn))) k2 rfl rfl rfl rfl rfl ?_
   simp only[zX,Nat.reduceShiftRight,Nat.reduceMod,Nat.reduceLT,Nat.reduceMul,Nat.reduceSub,Int.reduceToNat,Int.reduceNeg,Int.reduceLT,Int.reduceLE,Int.reduceEq,Nat.reduceEqDiff,Nat.reduceAdd,Nat.reduceLeDiff,reduceIte,reduceCtorEq,Nat.reduceBEq,i64,rdO_ren,List.set_cons_succ,List.set_cons_zero]
   refine call_map [1,2,4,5] (r':=.tu [.ag (re.cells.map V.d),.d (.sc (.bool true))]) k3 (by decide) rfl rfl rfl rfl rfl (renWk (some re)) ?_
   simp only[putObjs,List.map_cons,List.map_nil,rdO_ren,List.set_cons_succ,List.set_cons_zero,Re.cells_eq re,renO,rbxO,dwkO,dszO,renV.go,renV,i64,iD,bD]
   simp only[zX,Nat.reduceShiftRight,Nat.reduceMod,Nat.reduceLT,Nat.reduceMul,Nat.reduceSub,Int.reduceToNat,Int.reduceNeg,Int.reduceLT,Int.reduceLE,Int.reduceEq,Nat.reduceEqDiff,Nat.reduceAdd,Nat.reduceLeDiff,reduceIte,reduceCtorEq,Nat.reduceBEq,i64]
   refine call_at 1 (r':=.d (.sc (.int .i64 0))) k4 rfl rfl rfl rfl rfl ?_
   simp only[zX,Nat.reduceShiftRight,Nat.reduceMod,Nat.reduceLT,Nat.reduceMul,Nat.reduceSub,Int.reduceToNat,Int.reduceNeg,Int.reduceLT,Int.reduceLE,Int.reduceEq,Nat.reduceEqDiff,Nat.reduceAdd,Nat.reduceLeDiff,reduceIte,reduceCtorEq,Nat.reduceBEq,i64,rdO_ren,List.set_cons_succ,List.set_cons_zero]
   refine call_pure hv rfl rfl ?_
   simp only[zX,Nat.reduceShiftRight,Nat.reduceMod,Nat.reduceLT,Nat.reduceMul,Nat.reduceSub,Int.reduceToNat,Int.reduceNeg,Int.reduceLT,Int.reduceLE,Int.reduceEq,Nat.reduceEqDiff,Nat.reduceAdd,Nat.reduceLeDiff,reduceIte,reduceCtorEq,Nat.reduceBEq,i64]
   simp only[if_pos hval,Re.cells_eq re,iD,bD,List.map_cons,List.map_nil,List.cons_append,List.nil_append]
  ·have hc:¬((0:Int)=0∧([]:List Nat)=[]∧validR ⟨re,cn,bn⟩=0):=fun h=>hval h.2.2
   simp only[if_neg hc]
   generalize validR ⟨re,cn,bn⟩=vv at *
   simp only[zeroPatC,patC,Re.cells_eq re,iD,bD,i64,bV,List.map_cons,List.map_nil,List.cons_append,List.nil_append] at hv ⊢
   refine fn_ok func47 rfl ntmps47 results47 rfl 0 1021 (by simp) (by simp) ?_
   simp only[zX,Nat.reduceShiftRight,Nat.reduceMod,Nat.reduceLT,Nat.reduceMul,Nat.reduceSub,Int.reduceToNat,Int.reduceNeg,Int.reduceLT,Int.reduceLE,Int.reduceEq,Nat.reduceEqDiff,Nat.reduceAdd,Nat.reduceLeDiff,reduceIte,reduceCtorEq,Nat.reduceBEq,i64]
   refine call_read hb ?_
   simp only[zX,Nat.reduceShiftRight,Nat.reduceMod,Nat.reduceLT,Nat.reduceMul,Nat.reduceSub,Int.reduceToNat,Int.reduceNeg,Int.reduceLT,Int.reduceLE,Int.reduceEq,Nat.reduceEqDiff,Nat.reduceAdd,Nat.reduceLeDiff,reduceIte,reduceCtorEq,Nat.reduceBEq,i64,List.length_cons,List.length_nil,List.cons_append,List.nil_append]
   refine call_at 1 (r':=.d (.sc (.int .i64 cn))) k1 rfl rfl rfl rfl rfl ?_
   simp only[zX,Nat.reduceShiftRight,Nat.reduceMod,Nat.reduceLT,Nat.reduceMul,Nat.reduceSub,Int.reduceToNat,Int.reduceNeg,Int.reduceLT,Int.reduceLE,Int.reduceEq,Nat.reduceEqDiff,Nat.reduceAdd,Nat.reduceLeDiff,reduceIte,reduceCtorEq,Nat.reduceBEq,i64,rdO_ren,List.set_cons_succ,List.set_cons_zero]
   refine call_at 1 (r':=.d (.sc (.bool bn))) k2 rfl rfl rfl rfl rfl ?_
   simp only[zX,Nat.reduceShiftRight,Nat.reduceMod,Nat.reduceLT,Nat.reduceMul,Nat.reduceSub,Int.reduceToNat,Int.reduceNeg,Int.reduceLT,Int.reduceLE,Int.reduceEq,Nat.reduceEqDiff,Nat.reduceAdd,Nat.reduceLeDiff,reduceIte,reduceCtorEq,Nat.reduceBEq,i64,rdO_ren,List.set_cons_succ,List.set_cons_zero]
   refine call_map [1,2,4,5] (r':=.tu [.ag (re.cells.map V.d),.d (.sc (.bool true))]) k3 (by decide) rfl rfl rfl rfl rfl (renWk (some re)) ?_
   simp only[putObjs,List.map_cons,List.map_nil,rdO_ren,List.set_cons_succ,List.set_cons_zero,Re.cells_eq re,renO,rbxO,dwkO,dszO,renV.go,renV,i64,iD,bD]
   simp only[zX,Nat.reduceShiftRight,Nat.reduceMod,Nat.reduceLT,Nat.reduceMul,Nat.reduceSub,Int.reduceToNat,Int.reduceNeg,Int.reduceLT,Int.reduceLE,Int.reduceEq,Nat.reduceEqDiff,Nat.reduceAdd,Nat.reduceLeDiff,reduceIte,reduceCtorEq,Nat.reduceBEq,i64]
   refine call_at 1 (r':=.d (.sc (.int .i64 0))) k4 rfl rfl rfl rfl rfl ?_
   simp only[zX,Nat.reduceShiftRight,Nat.reduceMod,Nat.reduceLT,Nat.reduceMul,Nat.reduceSub,Int.reduceToNat,Int.reduceNeg,Int.reduceLT,Int.reduceLE,Int.reduceEq,Nat.reduceEqDiff,Nat.reduceAdd,Nat.reduceLeDiff,reduceIte,reduceCtorEq,Nat.reduceBEq,i64,rdO_ren,List.set_cons_succ,List.set_cons_zero]
   refine call_pure hv rfl rfl ?_
   simp only[zX,Nat.reduceShiftRight,Nat.reduceMod,Nat.reduceLT,Nat.reduceMul,Nat.reduceSub,Int.reduceToNat,Int.reduceNeg,Int.reduceLT,Int.reduceLE,Int.reduceEq,Nat.reduceEqDiff,Nat.reduceAdd,Nat.reduceLeDiff,reduceIte,reduceCtorEq,Nat.reduceBEq,i64,hval,ne_eq,not_false_eq_true,decide_true]
   simp only[zeroPat,Re.cells_eq,iD,bD,List.map_cons,List.map_nil,List.cons_append,List.nil_append]
   rfl
end Go.Proofs.Ytafbdphblilenaa
