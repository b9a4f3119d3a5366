/- A part of the proof (F103). -/
import Derived.Test.YtafbdphblilenaaAB40
set_option linter.unusedSimpArgs false
set_option linter.unusedVariables false
set_option maxRecDepth 100000
set_option maxHeartbeats 80000000
set_option linter.unusedSimpArgs false
set_option linter.unusedVariables false
namespace Go.Proofs.Ytafbdphblilenaa
open Go.VL Go.Proofs.Try
theorem refEncode_ok (c:Nat) (hc:c≤400000000) (p:Pat) (hp:p.re.every (smallB c)=true) (hcap:I64 p.caps) (hl:(encP p).length≤1000000000):PureOK prog 49 [.ag ((patC p).map .d)] (.d (bytesD (encP p))):=by
 have k1:=refInt_own p.caps hcap
 have k2:=refBool_ok p.runes
 unfold encP at hl ⊢
 simp only[List.length_append] at hl
 have k3:=(node_own c hc p.re hp (by omega)).pure
 have hu8:∀l:List Nat,∀e∈List.map u8V l,e.length=1:=by
  intro l e he
  obtain⟨b,_,rfl⟩:=List.mem_map.1 he
  rfl
 generalize uv (zz p.caps)=A at *
 generalize p.re.enc=E at *
 have hbt:[if p.runes=true then (1:Nat) else 0].length=1:=rfl
 generalize hBT:[if p.runes=true then (1:Nat) else 0]=BT at *
 simp only[patC,Re.cells_eq p.re,iD,bD,i64,bV,reV_eq,List.map_cons,List.map_nil,List.cons_append,List.nil_append] at k1 k2 k3 ⊢
 have hm:∀(bs:List Nat) (n lim:Nat) (s:List VL.Obj),(bs.map u8V).mapM (fun (e:List V)=>e.mapM (frzD n lim s))=some (bytesL bs):=fun bs n lim s=>by
  rw[← bytes_up,mapM_frzE]; rfl
 have hcut1:∀(a b:List Nat),(List.map u8V a++List.map u8V b).take (a.length + b.length)=List.map u8V (a++b):=fun a b=>by rw[List.take_of_length_le (by simp),List.map_append]
 refine fn_ok func49 rfl ntmps49 results49 rfl 0 15 (by simp) (by simp) ?_
 simp only[zX,Nat.reduceShiftRight,Nat.reduceMod,Nat.reduceLT,Nat.reduceMul,Nat.reduceSub,Int.reduceToNat,Int.reduceNeg,Int.reduceLT,Int.reduceLE,Int.reduceEq,Nat.reduceEqDiff,Nat.reduceAdd,Nat.reduceLeDiff,reduceIte,reduceCtorEq,Nat.reduceBEq,i64]
 refine k1.call rfl rfl fun g=>?_
 rw[← arG_eq,bytesL_len]
 simp only[zX,Nat.reduceShiftRight,Nat.reduceMod,Nat.reduceLT,Nat.reduceMul,Nat.reduceSub,Int.reduceToNat,Int.reduceNeg,Int.reduceLT,Int.reduceLE,Int.reduceEq,Nat.reduceEqDiff,Nat.reduceAdd,Nat.reduceLeDiff,reduceIte,reduceCtorEq,Nat.reduceBEq,i64,List.length_cons,List.length_nil]
 refine call_pure k2 rfl rfl ?_
 simp only[zX,Nat.reduceShiftRight,Nat.reduceMod,Nat.reduceLT,Nat.reduceMul,Nat.reduceSub,Int.reduceToNat,Int.reduceNeg,Int.reduceLT,Int.reduceLE,Int.reduceEq,Nat.reduceEqDiff,Nat.reduceAdd,Nat.reduceLeDiff,reduceIte,reduceCtorEq,Nat.reduceBEq,i64,bytesD,arG,arG_cut,bytes_up,List.length_map]
 refine⟨hu8 _,⟨by omega,by omega⟩,?_⟩
 refine call_pure k3 rfl rfl ?_
 simp only[zX,Nat.reduceShiftRight,Nat.reduceMod,Nat.reduceLT,Nat.reduceMul,Nat.reduceSub,Int.reduceToNat,Int.reduceNeg,Int.reduceLT,Int.reduceLE,Int.reduceEq,Nat.reduceEqDiff,Nat.reduceAdd,Nat.reduceLeDiff,reduceIte,reduceCtorEq,Nat.reduceBEq,i64,bytesL,arG,hcut1,bytes_up,List.length_map,List.length_append]
 refine⟨hu8 _,⟨by omega,by omega⟩,?_⟩
 rw[if_pos (by omega)]
 have h2:List.take (A.length + BT.length + E.length) (List.map u8V (A++BT)++List.map u8V E)=List.map u8V (A++BT++E):=by rw[← List.map_append,List.take_of_length_le (by simp; omega)]
 rw[h2,hm]
 rfl
theorem few_own (bs:List Nat) (m:Int) (h0:0≤m) (hb:min bs.length m.toNat≤1000000000):OwnSl prog 52 [.d (bytesD bs),i64 m] 1 (bytesL (bs.take m.toNat)):=by
 unfold OwnSl
 have hmin:min (bs.length:Int) m=((min bs.length m.toNat:Nat):Int):=by omega
 have q0:(0:Int)≤((min bs.length m.toNat:Nat):Int):=by omega
 have q1:((min bs.length m.toNat:Nat):Int)≤(bs.length:Int):=by omega
 have ht:List.take ((((min bs.length m.toNat:Nat):Int) - 0).toNat) (bs.map fun b:Nat=>[D.sc (.int .u8 (b:Int))])=bytesL (bs.take m.toNat):=by
  rw[show (((min bs.length m.toNat:Nat):Int) - 0).toNat=min bs.length m.toNat by omega,← List.map_take]
  unfold bytesL
  congr 1
  rcases Nat.le_total bs.length m.toNat with h | h
  ·rw[Nat.min_eq_left h,List.take_of_length_le (Nat.le_refl _),List.take_of_length_le h]
  ·rw[Nat.min_eq_right h]
 have hl:(bytesL (bs.take m.toNat)).length≤1000000000:=by rw[bytesL_len,List.length_take]; omega
 generalize bs.take m.toNat=R at *
 refine fn_own func52 rfl ntmps52 results52 rfl 0 51 (by simp) (by simp) ?_
 simp only[zX,Nat.reduceShiftRight,Nat.reduceMod,Nat.reduceLT,Nat.reduceMul,Nat.reduceSub,Int.reduceToNat,Int.reduceNeg,Int.reduceLT,Int.reduceLE,Int.reduceEq,Nat.reduceEqDiff,Nat.reduceAdd,Nat.reduceLeDiff,reduceIte,reduceCtorEq,Nat.reduceBEq,i64,bytesD,List.length_map,hmin,q0,q1,ht]
 refine⟨?_,⟨by omega,by simp⟩,?_⟩
 ·intro e he
  obtain⟨c,hc,rfl⟩:=List.mem_map.1 he
  obtain⟨b,_,rfl⟩:=List.mem_map.1 hc
  rfl
 simp only[zX,Nat.reduceShiftRight,Nat.reduceMod,Nat.reduceLT,Nat.reduceMul,Nat.reduceSub,Int.reduceToNat,Int.reduceNeg,Int.reduceLT,Int.reduceLE,Int.reduceEq,Nat.reduceEqDiff,Nat.reduceAdd,Nat.reduceLeDiff,reduceIte,reduceCtorEq,Nat.reduceBEq,i64,Qown,Nat.zero_add]
 refine own_exit (id:=0) rfl rfl rfl
theorem refSame_ok (p:Pat) (hf:p.re.fine=true):PureOK prog 51 [.ag ((patC p).map .d),.ag ((patC p).map .d)] (bV true):=by
 have hc:=cmpSelf_ok p.re hf
 have t1:(p.caps=p.caps)=True:=eq_true rfl
 simp only[patC,Re.cells_eq p.re,iD,bD,i64,bV,reV_eq,List.map_cons,List.map_nil,List.cons_append,List.nil_append] at hc ⊢
 refine fn_ok func51 rfl ntmps51 results51 rfl 0 31 (by simp) (by simp) ?_
 cases hr:p.runes
 ·simp only[zX,Nat.reduceShiftRight,Nat.reduceMod,Nat.reduceLT,Nat.reduceMul,Nat.reduceSub,Int.reduceToNat,Int.reduceNeg,Int.reduceLT,Int.reduceLE,Int.reduceEq,Nat.reduceEqDiff,Nat.reduceAdd,Nat.reduceLeDiff,reduceIte,reduceCtorEq,Nat.reduceBEq,i64,t1,decide_true,beq_self_eq_true]
  refine call_pure hc rfl rfl ?_
  simp only[zX,Nat.reduceShiftRight,Nat.reduceMod,Nat.reduceLT,Nat.reduceMul,Nat.reduceSub,Int.reduceToNat,Int.reduceNeg,Int.reduceLT,Int.reduceLE,Int.reduceEq,Nat.reduceEqDiff,Nat.reduceAdd,Nat.reduceLeDiff,reduceIte,reduceCtorEq,Nat.reduceBEq,i64,decide_true]
 ·simp only[zX,Nat.reduceShiftRight,Nat.reduceMod,Nat.reduceLT,Nat.reduceMul,Nat.reduceSub,Int.reduceToNat,Int.reduceNeg,Int.reduceLT,Int.reduceLE,Int.reduceEq,Nat.reduceEqDiff,Nat.reduceAdd,Nat.reduceLeDiff,reduceIte,reduceCtorEq,Nat.reduceBEq,i64,t1,decide_true,beq_self_eq_true]
  refine call_pure hc rfl rfl ?_
  simp only[zX,Nat.reduceShiftRight,Nat.reduceMod,Nat.reduceLT,Nat.reduceMul,Nat.reduceSub,Int.reduceToNat,Int.reduceNeg,Int.reduceLT,Int.reduceLE,Int.reduceEq,Nat.reduceEqDiff,Nat.reduceAdd,Nat.reduceLeDiff,reduceIte,reduceCtorEq,Nat.reduceBEq,i64,decide_true]
end Go.Proofs.Ytafbdphblilenaa
