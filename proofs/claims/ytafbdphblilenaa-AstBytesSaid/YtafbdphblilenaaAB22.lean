/- A part of the proof (F56 F58). -/
import Derived.Test.YtafbdphblilenaaAB21
import Derived.Test.YtafbdphblilenaaAB16
set_option linter.unusedSimpArgs false
set_option linter.unusedVariables false
set_option maxRecDepth 100000
set_option maxHeartbeats 80000000
set_option linter.unusedSimpArgs false
set_option linter.unusedVariables false
namespace Go.Proofs.Ytafbdphblilenaa
open Go.VL Go.Proofs.Try
def cell3O (f:FuncId):VL.Obj:=⟨0,true,1,[[.cl (.func f) [] [.rf 0 0 0 0,.rf 2 0 0 0]]]⟩
def EncOK (re:Re):Prop:=∀bs:List Nat,bs.length + re.enc.length≤1000000000 →
 callWp prog 87 [reEl re,.rf 0 0 0 0,.rf 2 0 0 0] [wO bs,arO bs,cell3O 87] fun v s=>v=.tu []∧s=[wO (bs++re.enc),arO (bs++re.enc),cell3O 87]
theorem renO_wO (bs:List Nat):renO [0,1] (wO bs)=wO bs:=rfl
theorem renO_arO (ρ:List Nat) (bs:List Nat):renO ρ (arO bs)=arO bs:=by
 simp [renO,arO,u8V,renV_go,renV]
theorem objOk_wO (bs:List Nat):objOk 2 (wO bs)=true:=rfl
theorem objOk_arO (n:Nat) (bs:List Nat):objOk n (arO bs)=true:=by simp [objOk,arO,u8V,refsV]
theorem Re.encL_append:∀a b:List Re,Re.encL (a++b)=Re.encL a++Re.encL b
 | [],b=>rfl
 | k::a,b=>by simp only[List.cons_append,Re.encL,Re.encL_append a b,List.append_assoc]
theorem Re.encL_take_le (l:List Re) (i:Nat):(Re.encL (l.take i)).length≤(Re.encL l).length:=by
 conv=>rhs; rw[← List.take_append_drop i l]
 rw[Re.encL_append,List.length_append]; omega
theorem call_w {P:Program} {f:FuncId} {cargs args:List V} {bs bs':List Nat} {rest:List VL.Obj} {K:V→List VL.Obj→Prop} (h:callWp P f cargs [wO bs,arO bs] fun v s=>v=.tu []∧s=[wO bs',arO bs']) (ha:args=cargs.map (renV [0,1])) (hra:refsV.go 2 cargs=true)
  (hk:K (.tu []) (wO bs'::arO bs'::rest)):callWp P f args (wO bs::arO bs::rest) K:=by
 refine call_map [0,1] h (by decide) rfl (by simp [renO_wO,renO_arO]) ha hra (by simp [objOk_wO,objOk_arO]) (r':=.tu []) rfl ?_
 simpa [putObjs,renO_wO,renO_arO] using hk
theorem callF_w {P:Program} {f:FuncId} {args:List V} {bs bs':List Nat} {rest:List VL.Obj} {K:V→List VL.Obj→Prop} (h:callWp P f args [wO bs,arO bs] fun v s=>v=.tu []∧s=[wO bs',arO bs']) (ha:args=args.map (renV [0,1])) (hra:refsV.go 2 args=true)
  (hk:K (.tu []) (wO bs'::arO bs'::rest)):callF P [0,1] [0,1] f args (wO bs::arO bs::rest) K :=
 callF_two h ha hra (objOk_wO _) (objOk_arO _ _) (renO_wO _).symm (renO_arO _ _).symm (renO_wO _) (renO_arO _ _) rfl hk
theorem frz2 {lim:Nat} {s:List VL.Obj} {a b a' b':V} (ha:frzV lim s a=some a') (hb:frzV lim s b=some b'):frzV.go lim s [a,b]=some [a',b']:=by
 simp only[frzV.go,ha,hb]
def headP (re:Re) (l:List (Int × Int)):List Int:=re.op::l.flatMap fun s=>[s.1,s.2]
theorem headP_eq (re:Re):headP re re.set=headI re:=rfl
theorem headP_len (re:Re) (l:List (Int × Int)):(headP re l).length=1 + 2 * l.length:=by
 have hfl:∀l:List (Int × Int),(l.flatMap fun s=>[s.1,s.2]).length=2 * l.length:=by
  intro l
  induction l with
  | nil=>rfl
  | cons x l ih=>simp only[List.flatMap_cons,List.length_append,ih,List.length_cons,List.length_nil]; omega
 unfold headP; rw[List.length_cons,hfl]; omega
def headO (re:Re) (g i:Nat):VL.Obj:=⟨g,true,1,((headP re (re.set.take i)).map fun x=>[iD x]).map fun c=>c.map V.d⟩
theorem encode_rec (c:Nat) (hc:c≤400000000) (re:Re) (hs:re.every (smallB c)=true):EncOK re:=by
 revert hs
 refine Re.ind (Q:=fun re=>re.every (smallB c)=true→EncOK re) (fun re ih hs bs hb=>?_) re
 obtain⟨s1,s2⟩:=(Re.every_iff re).1 hs
 obtain⟨⟨hset,hkids,_⟩,_⟩:=smallB_iff.1 s1
 have hhl:=headI_len re
 rw[Re.enc_eq] at hb ⊢
 simp only[List.length_append] at hb
 have k1:=wints_ok (headI re) (headI_in s1) (by omega) bs (by omega)
 have k2:=wints_ok (tailI re) (tailI_in s1) (by simp [tailI]) (bs++intsB (headI re)) (by simp only[List.length_append]; omega)
 have k3:=wint_ok re.kids.length (by unfold I64; omega) (bs++intsB (headI re)++intsB (tailI re)) (by simp only[List.length_append]; omega)
 have kd:=digit_ok re.neg
 simp only[bV,i64] at kd k3
 refine fn_ok func87 rfl ntmps87 results87 rfl 3 110680464442257768663 (by simp) (by simp) ?_
 simp only[zX,Nat.reduceShiftRight,Nat.reduceMod,Nat.reduceLT,Nat.reduceMul,Nat.reduceSub,Int.reduceToNat,Int.reduceNeg,Int.reduceLT,Int.reduceLE,Int.reduceEq,Nat.reduceEqDiff,Nat.reduceAdd,Nat.reduceLeDiff,reduceIte,reduceCtorEq,Nat.reduceBEq,i64,reEl,Re.cells_eq re,iD,bD]
 refine loop_rule (fun n e s=>∃i:Nat,n=re.set.length - i∧i≤re.set.length∧e 0=reEl re∧e 1=.rf 0 0 0 0∧e 2=.rf 2 0 0 0∧e 16=.d (.sl (re.set.map spanC))∧e 17=i64 re.set.length∧e 18=i64 i ∧
   ((i=0∧e 4=.fu [[iD re.op]]∧s=[wO bs,arO bs,cell3O 87])∨∃g X,objOk 5 X=true∧e 4=.so 4 g 0 (1 + 2 * i)∧s=[wO bs,arO bs,cell3O 87,X,headO re g i]))
  ⟨_,_,_,Cln.refl,0,rfl,by omega,by simp [reEl,Re.cells_eq re,iD,bD]; rfl,rfl,rfl,rfl,rfl,rfl,.inl ⟨rfl,rfl,rfl⟩⟩ ?_
 rintro n e s ⟨i,rfl,hi,h0,h1,h2,h16,h17,h18,hacc⟩
 have hpl:=headP_len re (re.set.take i)
 rw[List.length_take_of_le hi] at hpl
 rcases Nat.lt_or_ge i re.set.length with hlt | hge
 ·obtain⟨x,hx⟩:∃x,re.set[i]?=some x:=⟨_,List.getElem?_eq_getElem hlt⟩
  rcases hacc with ⟨rfl,h4,rfl⟩ | ⟨g,X,hX,h4,rfl⟩
  ·simp only[zX,Nat.reduceShiftRight,Nat.reduceMod,Nat.reduceLT,Nat.reduceMul,Nat.reduceSub,Int.reduceToNat,Int.reduceNeg,Int.reduceLT,Int.reduceLE,Int.reduceEq,Nat.reduceEqDiff,Nat.reduceAdd,Nat.reduceLeDiff,reduceIte,reduceCtorEq,Nat.reduceBEq,i64,iD,bD,spanC,h0,h1,h2,h4,h16,h17,h18,hlt,hx]
   refine⟨by simp,by simp,re.set.length - 1,_,_,by omega,Cln.refl,1,rfl,by omega,?_,?_,?_,?_,?_,?_,.inr ⟨0,⟨0,true,2,[[.d (.sc (.int .i64 x.1)),.d (.sc (.int .i64 x.2))]]⟩,?_,?_,?_⟩⟩ <;> (try simp only[zU,Nat.reduceBEq,Nat.reduceShiftRight,Nat.reduceMod,Nat.reduceEqDiff,reduceIte])
   ·exact h0
   ·exact h1
   ·exact h2
   ·exact h16
   ·exact h17
   ·rw[w64 _ (by omega)]; rfl
   ·simp [objOk,refsV]
   ·have t1:re.set.take 1=[x]:=by rw[show (1:Nat)=0 + 1 from rfl,take_get hx]; rfl
    simp [headO,headP,iD,t1]
  ·simp only[zX,Nat.reduceShiftRight,Nat.reduceMod,Nat.reduceLT,Nat.reduceMul,Nat.reduceSub,Int.reduceToNat,Int.reduceNeg,Int.reduceLT,Int.reduceLE,Int.reduceEq,Nat.reduceEqDiff,Nat.reduceAdd,Nat.reduceLeDiff,reduceIte,reduceCtorEq,Nat.reduceBEq,i64,iD,bD,spanC,h0,h1,h2,h4,h16,h17,h18,hlt,hx,headO]
   have hcut:(((headP re (re.set.take i)).map fun x=>[D.sc (Value.int .i64 x)]).map fun c=>c.map V.d).take (1 + 2 * i)=((headP re (re.set.take i)).map fun x=>[D.sc (Value.int .i64 x)]).map fun c=>c.map V.d:=List.take_of_length_le (by simp [hpl])
   rw[hcut]
   refine⟨by simp,⟨by simp [hpl],by omega⟩,re.set.length - (i + 1),_,_,by omega,Cln.cut 5 (by omega) rfl ?_ [0,1,2,4,16,17,18] ?_,i + 1,rfl,by omega,?_,?_,?_,?_,?_,?_,.inr ⟨g + 1,X,hX,?_,?_⟩⟩ <;> (try simp only[zU,Nat.reduceBEq,Nat.reduceShiftRight,Nat.reduceMod,Nat.reduceEqDiff,reduceIte])
   ·simp only[List.take_succ_cons,List.take_zero,List.all_cons,List.all_nil,Bool.and_true,hX,Bool.true_and]
    simp [objOk,wO,arO,u8V,cell3O,refsV,refsV.go]
   ·simp [updE,trimE_app,refsV,h0,h1,h2,h16,h17,i64,reEl]
   ·exact h0
   ·exact h1
   ·exact h2
   ·exact h16
   ·exact h17
   ·rw[w64 _ (by omega)]; rfl
   ·rw[show 1 + 2 * (i + 1)=1 + 2 * i + 2 by omega]
   ·rw[take_get hx]; simp [headO,headP,iD]
 have hie:i=re.set.length:=by omega
 subst hie
 rw[List.take_length] at hpl
 have hge':∀g,headO re g re.set.length=⟨g,true,1,((headI re).map fun x=>[iD x]).map fun c=>c.map V.d⟩:=fun g=>by simp [headO,List.take_length,headP_eq]
 have k2f:callWp prog 88 [.rf 0 0 0 0,.fu [[iD re.mn],[iD re.mx],[iD re.mode],[iD re.n],[iD (digI re.neg)]]] [wO (bs++intsB (headI re)),arO (bs++intsB (headI re))] fun v s=>v=.tu []∧s=[wO (bs++intsB (headI re)++intsB (tailI re)),arO (bs++intsB (headI re)++intsB (tailI re))] :=
  call_give [] rfl k2
 simp only[iD] at k2f
 rcases hacc with ⟨hz,h4,rfl⟩ | ⟨g,X,hX,h4,rfl⟩
 ·have hse:re.set=[]:=List.eq_nil_of_length_eq_zero hz
  have hh1:headI re=[re.op]:=by simp [headI,hse]
  have k1f:callWp prog 88 [.rf 0 0 0 0,.fu [[iD re.op]]] [wO bs,arO bs] fun v s=>v=.tu []∧s=[wO (bs++intsB (headI re)),arO (bs++intsB (headI re))] :=
   call_give [] rfl (by rw[hh1] at k1 ⊢; exact k1)
  simp only[iD] at k1f
  simp only[zX,Nat.reduceShiftRight,Nat.reduceMod,Nat.reduceLT,Nat.reduceMul,Nat.reduceSub,Int.reduceToNat,Int.reduceNeg,Int.reduceLT,Int.reduceLE,Int.reduceEq,Nat.reduceEqDiff,Nat.reduceAdd,Nat.reduceLeDiff,reduceIte,reduceCtorEq,Nat.reduceBEq,i64,iD,bD,h0,h1,h2,h4,h16,h17,h18,Nat.lt_irrefl]
  refine call_w k1f rfl rfl ?_
  simp only[zX,Nat.reduceShiftRight,Nat.reduceMod,Nat.reduceLT,Nat.reduceMul,Nat.reduceSub,Int.reduceToNat,Int.reduceNeg,Int.reduceLT,Int.reduceLE,Int.reduceEq,Nat.reduceEqDiff,Nat.reduceAdd,Nat.reduceLeDiff,reduceIte,reduceCtorEq,Nat.reduceBEq,i64,iD,bD,h0,h1,h2,reEl,Re.cells_eq re]
  refine draw_c mix [] [(22,[0,1],[0,1])] (by rfl) ?_
  simp only[zX,Nat.reduceShiftRight,Nat.reduceMod,Nat.reduceLT,Nat.reduceMul,Nat.reduceSub,Int.reduceToNat,Int.reduceNeg,Int.reduceLT,Int.reduceLE,Int.reduceEq,Nat.reduceEqDiff,Nat.reduceAdd,Nat.reduceLeDiff,reduceIte,reduceCtorEq,Nat.reduceBEq,i64,iD,bD,h0,h1,h2,reEl,Re.cells_eq re]
  refine callC_pure kd rfl rfl ?_
  simp only[zX,Nat.reduceShiftRight,Nat.reduceMod,Nat.reduceLT,Nat.reduceMul,Nat.reduceSub,Int.reduceToNat,Int.reduceNeg,Int.reduceLT,Int.reduceLE,Int.reduceEq,Nat.reduceEqDiff,Nat.reduceAdd,Nat.reduceLeDiff,reduceIte,reduceCtorEq,Nat.reduceBEq,i64,iD,bD,h0,h1,h2,reEl,Re.cells_eq re]
  refine callF_w k2f rfl rfl ?_
  simp only[zX,Nat.reduceShiftRight,Nat.reduceMod,Nat.reduceLT,Nat.reduceMul,Nat.reduceSub,Int.reduceToNat,Int.reduceNeg,Int.reduceLT,Int.reduceLE,Int.reduceEq,Nat.reduceEqDiff,Nat.reduceAdd,Nat.reduceLeDiff,reduceIte,reduceCtorEq,Nat.reduceBEq,i64,iD,bD,h0,h1,h2,reEl,Re.cells_eq re]
  refine call_w k3 rfl rfl ?_
  simp only[zX,Nat.reduceShiftRight,Nat.reduceMod,Nat.reduceLT,Nat.reduceMul,Nat.reduceSub,Int.reduceToNat,Int.reduceNeg,Int.reduceLT,Int.reduceLE,Int.reduceEq,Nat.reduceEqDiff,Nat.reduceAdd,Nat.reduceLeDiff,reduceIte,reduceCtorEq,Nat.reduceBEq,i64,iD,bD,h0,h1,h2,reEl,Re.cells_eq re]
  generalize hBe:bs++intsB (headI re)++intsB (tailI re)++uv (zz re.kids.length)=B at *
  have hB:∀x,B++x=bs++(intsB (headI re)++(intsB (tailI re)++(uv (zz re.kids.length)++x))):=fun x=>by rw[← hBe]; simp only[List.append_assoc]
  have hBl:B.length=bs.length + (intsB (headI re)).length + (intsB (tailI re)).length + (uv (zz re.kids.length)).length:=by rw[← hBe]; simp only[List.length_append]
  rw[← hB]
  refine loop_rule (fun n e s=>∃i:Nat,n=re.kids.length - i∧i≤re.kids.length∧e 0=reEl re∧e 1=.rf 0 0 0 0∧e 2=.rf 2 0 0 0∧e 65=i64 re.kids.length∧e 66=i64 i∧s=[wO (B++Re.encL (re.kids.take i)),arO (B++Re.encL (re.kids.take i)),cell3O 87])
   ⟨_,_,_,Cln.cut 3 (by omega) rfl ?_ [0,1,2,65,66] ?_,0,rfl,by omega,?_,?_,?_,?_,?_,by simp [Re.encL]⟩ ?_ <;> (try simp only[zU,Nat.reduceBEq,Nat.reduceShiftRight,Nat.reduceMod,Nat.reduceEqDiff,reduceIte])
  ·simp only[List.take_succ_cons,List.take_zero,List.all_cons,List.all_nil,Bool.and_true]
   simp [objOk,wO,arO,u8V,cell3O,refsV,refsV.go]
  ·simp [updE,trimE_app,refsV,h0,h1,h2,i64,reEl]
  ·simpa [reEl,Re.cells_eq re,iD,bD] using h0
  ·exact h1
  ·exact h2
  ·rfl
  ·rfl
  clear h0 h1 h2 h4 h16 h17 h18
  rintro n e s ⟨i,rfl,hi,h0,h1,h2,h65,h66,rfl⟩
  rcases Nat.lt_or_ge i re.kids.length with hlt | hge
  ·obtain⟨k,hk⟩:∃k,re.kids[i]?=some k:=⟨_,List.getElem?_eq_getElem hlt⟩
   have hm:=List.mem_of_getElem? hk
   have htl:=Re.encL_take_le re.kids (i + 1)
   have hsn:Re.encL (re.kids.take (i + 1))=Re.encL (re.kids.take i)++k.enc:=by rw[take_get hk,Re.encL_append]; simp [Re.encL]
   have hrec:=ih k hm (s2 k hm) (B++Re.encL (re.kids.take i)) (by rw[hsn,List.length_append] at htl; rw[List.length_append]; omega)
   rw[List.append_assoc,← hsn] at hrec
   simp only[zX,Nat.reduceShiftRight,Nat.reduceMod,Nat.reduceLT,Nat.reduceMul,Nat.reduceSub,Int.reduceToNat,Int.reduceNeg,Int.reduceLT,Int.reduceLE,Int.reduceEq,Nat.reduceEqDiff,Nat.reduceAdd,Nat.reduceLeDiff,reduceIte,reduceCtorEq,Nat.reduceBEq,i64,h0,h1,h2,h65,h66,hlt,cell3O]
   refine draw_c mix [] [(0,[2],[]),(7,[0,1,2],[0,1,2])] (by rfl) ?_
   simp only[zX,Nat.reduceShiftRight,Nat.reduceMod,Nat.reduceLT,Nat.reduceMul,Nat.reduceSub,Int.reduceToNat,Int.reduceNeg,Int.reduceLT,Int.reduceLE,Int.reduceEq,Nat.reduceEqDiff,Nat.reduceAdd,Nat.reduceLeDiff,reduceIte,reduceCtorEq,Nat.reduceBEq,i64,h0,h1,h2,h65,h66,hlt,hk,cell3O,reEl,Re.cells_eq re,iD,bD]
   refine callF_whole hrec (by intro j hj; simp only[List.length_cons,List.length_nil] at hj; simp only[List.mem_cons,List.not_mem_nil,or_false]; omega) rfl rfl ?_
   simp only[zX,Nat.reduceShiftRight,Nat.reduceMod,Nat.reduceLT,Nat.reduceMul,Nat.reduceSub,Int.reduceToNat,Int.reduceNeg,Int.reduceLT,Int.reduceLE,Int.reduceEq,Nat.reduceEqDiff,Nat.reduceAdd,Nat.reduceLeDiff,reduceIte,reduceCtorEq,Nat.reduceBEq,i64,h0,h1,h2,h65,h66]
   refine⟨re.kids.length - (i + 1),_,_,by omega,Cln.refl,i + 1,rfl,hlt,?_,?_,?_,?_,?_,rfl⟩ <;> (try simp only[zU,Nat.reduceBEq,Nat.reduceShiftRight,Nat.reduceMod,Nat.reduceEqDiff,reduceIte])
   ·simpa [reEl,Re.cells_eq re,iD,bD] using h0
   ·exact h1
   ·exact h2
   ·exact h65
   ·rw[w64 _ (by omega)]; rfl
  ·have hie:i=re.kids.length:=by omega
   subst hie
   rw[List.take_length]
   simp only[zX,Nat.reduceShiftRight,Nat.reduceMod,Nat.reduceLT,Nat.reduceMul,Nat.reduceSub,Int.reduceToNat,Int.reduceNeg,Int.reduceLT,Int.reduceLE,Int.reduceEq,Nat.reduceEqDiff,Nat.reduceAdd,Nat.reduceLeDiff,reduceIte,reduceCtorEq,Nat.reduceBEq,i64,h0,h1,h2,h65,h66,Nat.lt_irrefl]
   simp [objOk,wO,arO,u8V,cell3O,refsV,refsV.go]
 ·simp only[zX,Nat.reduceShiftRight,Nat.reduceMod,Nat.reduceLT,Nat.reduceMul,Nat.reduceSub,Int.reduceToNat,Int.reduceNeg,Int.reduceLT,Int.reduceLE,Int.reduceEq,Nat.reduceEqDiff,Nat.reduceAdd,Nat.reduceLeDiff,reduceIte,reduceCtorEq,Nat.reduceBEq,i64,iD,bD,h0,h1,h2,h4,h16,h17,h18,Nat.lt_irrefl]
  refine call_give [4] (frz2 (a':=.rf 0 0 0 0) rfl (frz_own (ds:=(headI re).map fun x=>[iD x]) rfl ?_ ?_ (.inr rfl))) ?_
  ·rw[hge' g,List.drop_zero,List.take_of_length_le (by simp [hhl])]
  ·rw[hge' g]; simp [hhl]
  refine call_w k1 rfl rfl ?_
  simp only[zX,Nat.reduceShiftRight,Nat.reduceMod,Nat.reduceLT,Nat.reduceMul,Nat.reduceSub,Int.reduceToNat,Int.reduceNeg,Int.reduceLT,Int.reduceLE,Int.reduceEq,Nat.reduceEqDiff,Nat.reduceAdd,Nat.reduceLeDiff,reduceIte,reduceCtorEq,Nat.reduceBEq,i64,iD,bD,h0,h1,h2,reEl,Re.cells_eq re]
  refine draw_c mix [] [(22,[0,1],[0,1])] (by rfl) ?_
  simp only[zX,Nat.reduceShiftRight,Nat.reduceMod,Nat.reduceLT,Nat.reduceMul,Nat.reduceSub,Int.reduceToNat,Int.reduceNeg,Int.reduceLT,Int.reduceLE,Int.reduceEq,Nat.reduceEqDiff,Nat.reduceAdd,Nat.reduceLeDiff,reduceIte,reduceCtorEq,Nat.reduceBEq,i64,iD,bD,h0,h1,h2,reEl,Re.cells_eq re]
  refine callC_pure kd rfl rfl ?_
  simp only[zX,Nat.reduceShiftRight,Nat.reduceMod,Nat.reduceLT,Nat.reduceMul,Nat.reduceSub,Int.reduceToNat,Int.reduceNeg,Int.reduceLT,Int.reduceLE,Int.reduceEq,Nat.reduceEqDiff,Nat.reduceAdd,Nat.reduceLeDiff,reduceIte,reduceCtorEq,Nat.reduceBEq,i64,iD,bD,h0,h1,h2,reEl,Re.cells_eq re]
  refine callF_w k2f rfl rfl ?_
  simp only[zX,Nat.reduceShiftRight,Nat.reduceMod,Nat.reduceLT,Nat.reduceMul,Nat.reduceSub,Int.reduceToNat,Int.reduceNeg,Int.reduceLT,Int.reduceLE,Int.reduceEq,Nat.reduceEqDiff,Nat.reduceAdd,Nat.reduceLeDiff,reduceIte,reduceCtorEq,Nat.reduceBEq,i64,iD,bD,h0,h1,h2,reEl,Re.cells_eq re]
  refine call_w k3 rfl rfl ?_
  simp only[zX,Nat.reduceShiftRight,Nat.reduceMod,Nat.reduceLT,Nat.reduceMul,Nat.reduceSub,Int.reduceToNat,Int.reduceNeg,Int.reduceLT,Int.reduceLE,Int.reduceEq,Nat.reduceEqDiff,Nat.reduceAdd,Nat.reduceLeDiff,reduceIte,reduceCtorEq,Nat.reduceBEq,i64,iD,bD,h0,h1,h2,reEl,Re.cells_eq re]
  generalize hBe:bs++intsB (headI re)++intsB (tailI re)++uv (zz re.kids.length)=B at *
  have hB:∀x,B++x=bs++(intsB (headI re)++(intsB (tailI re)++(uv (zz re.kids.length)++x))):=fun x=>by rw[← hBe]; simp only[List.append_assoc]
  have hBl:B.length=bs.length + (intsB (headI re)).length + (intsB (tailI re)).length + (uv (zz re.kids.length)).length:=by rw[← hBe]; simp only[List.length_append]
  rw[← hB]
  refine loop_rule (fun n e s=>∃i:Nat,n=re.kids.length - i∧i≤re.kids.length∧e 0=reEl re∧e 1=.rf 0 0 0 0∧e 2=.rf 2 0 0 0∧e 65=i64 re.kids.length∧e 66=i64 i∧s=[wO (B++Re.encL (re.kids.take i)),arO (B++Re.encL (re.kids.take i)),cell3O 87])
   ⟨_,_,_,Cln.cut 3 (by omega) rfl ?_ [0,1,2,65,66] ?_,0,rfl,by omega,?_,?_,?_,?_,?_,by simp [Re.encL]⟩ ?_ <;> (try simp only[zU,Nat.reduceBEq,Nat.reduceShiftRight,Nat.reduceMod,Nat.reduceEqDiff,reduceIte])
  ·simp only[List.take_succ_cons,List.take_zero,List.all_cons,List.all_nil,Bool.and_true]
   simp [objOk,wO,arO,u8V,cell3O,refsV,refsV.go]
  ·simp [updE,trimE_app,refsV,h0,h1,h2,i64,reEl]
  ·simpa [reEl,Re.cells_eq re,iD,bD] using h0
  ·exact h1
  ·exact h2
  ·rfl
  ·rfl
  clear h0 h1 h2 h4 h16 h17 h18
  rintro n e s ⟨i,rfl,hi,h0,h1,h2,h65,h66,rfl⟩
  rcases Nat.lt_or_ge i re.kids.length with hlt | hge
  ·obtain⟨k,hk⟩:∃k,re.kids[i]?=some k:=⟨_,List.getElem?_eq_getElem hlt⟩
   have hm:=List.mem_of_getElem? hk
   have htl:=Re.encL_take_le re.kids (i + 1)
   have hsn:Re.encL (re.kids.take (i + 1))=Re.encL (re.kids.take i)++k.enc:=by rw[take_get hk,Re.encL_append]; simp [Re.encL]
   have hrec:=ih k hm (s2 k hm) (B++Re.encL (re.kids.take i)) (by rw[hsn,List.length_append] at htl; rw[List.length_append]; omega)
   rw[List.append_assoc,← hsn] at hrec
   simp only[zX,Nat.reduceShiftRight,Nat.reduceMod,Nat.reduceLT,Nat.reduceMul,Nat.reduceSub,Int.reduceToNat,Int.reduceNeg,Int.reduceLT,Int.reduceLE,Int.reduceEq,Nat.reduceEqDiff,Nat.reduceAdd,Nat.reduceLeDiff,reduceIte,reduceCtorEq,Nat.reduceBEq,i64,h0,h1,h2,h65,h66,hlt,cell3O]
   refine draw_c mix [] [(0,[2],[]),(7,[0,1,2],[0,1,2])] (by rfl) ?_
   simp only[zX,Nat.reduceShiftRight,Nat.reduceMod,Nat.reduceLT,Nat.reduceMul,Nat.reduceSub,Int.reduceToNat,Int.reduceNeg,Int.reduceLT,Int.reduceLE,Int.reduceEq,Nat.reduceEqDiff,Nat.reduceAdd,Nat.reduceLeDiff,reduceIte,reduceCtorEq,Nat.reduceBEq,i64,h0,h1,h2,h65,h66,hlt,hk,cell3O,reEl,Re.cells_eq re,iD,bD]
   refine callF_whole hrec (by intro j hj; simp only[List.length_cons,List.length_nil] at hj; simp only[List.mem_cons,List.not_mem_nil,or_false]; omega) rfl rfl ?_
   simp only[zX,Nat.reduceShiftRight,Nat.reduceMod,Nat.reduceLT,Nat.reduceMul,Nat.reduceSub,Int.reduceToNat,Int.reduceNeg,Int.reduceLT,Int.reduceLE,Int.reduceEq,Nat.reduceEqDiff,Nat.reduceAdd,Nat.reduceLeDiff,reduceIte,reduceCtorEq,Nat.reduceBEq,i64,h0,h1,h2,h65,h66]
   refine⟨re.kids.length - (i + 1),_,_,by omega,Cln.refl,i + 1,rfl,hlt,?_,?_,?_,?_,?_,rfl⟩ <;> (try simp only[zU,Nat.reduceBEq,Nat.reduceShiftRight,Nat.reduceMod,Nat.reduceEqDiff,reduceIte])
   ·simpa [reEl,Re.cells_eq re,iD,bD] using h0
   ·exact h1
   ·exact h2
   ·exact h65
   ·rw[w64 _ (by omega)]; rfl
  ·have hie:i=re.kids.length:=by omega
   subst hie
   rw[List.take_length]
   simp only[zX,Nat.reduceShiftRight,Nat.reduceMod,Nat.reduceLT,Nat.reduceMul,Nat.reduceSub,Int.reduceToNat,Int.reduceNeg,Int.reduceLT,Int.reduceLE,Int.reduceEq,Nat.reduceEqDiff,Nat.reduceAdd,Nat.reduceLeDiff,reduceIte,reduceCtorEq,Nat.reduceBEq,i64,h0,h1,h2,h65,h66,Nat.lt_irrefl]
   simp [objOk,wO,arO,u8V,cell3O,refsV,refsV.go]
theorem uv_len (m:Nat):(uv m).length≤11:=uvF_len 10 m
theorem intsB_len (l:List Int):(intsB l).length≤11 * (l.length + 1):=by
 have hf:∀l:List Int,(l.flatMap fun x=>uv (zz x)).length≤11 * l.length:=by
  intro l
  induction l with
  | nil=>simp
  | cons x l ih=>have:=uv_len (zz x); simp only[List.flatMap_cons,List.length_append,List.length_cons]; omega
 have:=uv_len l.length
 have:=hf l
 unfold intsB; rw[List.length_append]; omega
theorem enc_len (c:Nat) (re:Re) (h:re.every (smallB c)=true):re.enc.length≤re.size * (11 * (2 * c + 10)):=by
 revert h
 refine Re.ind (Q:=fun re=>re.every (smallB c)=true→re.enc.length≤re.size * (11 * (2 * c + 10))) (fun re ih h=>?_) re
 obtain⟨h1,h2⟩:=(Re.every_iff re).1 h
 obtain⟨⟨hs,hk,_⟩,_⟩:=smallB_iff.1 h1
 have hl:∀l:List Re,(∀k∈l,k.enc.length≤k.size * (11 * (2 * c + 10)))→(Re.encL l).length≤Re.sizeL l * (11 * (2 * c + 10)):=by
  intro l
  induction l with
  | nil=>intro _; simp [Re.encL]
  | cons k l ih =>
   intro hh
   have a:=hh k (by simp)
   have b:=ih (fun x hx=>hh x (by simp [hx]))
   simp only[Re.encL,Re.sizeL,List.length_append,Nat.add_mul]; omega
 have a1:=intsB_len (headI re)
 have a2:=intsB_len (tailI re)
 have a3:=uv_len (zz re.kids.length)
 have a4:=hl re.kids (fun k hk=>ih k hk (h2 k hk))
 rw[headI_len] at a1
 have a5:(tailI re).length=5:=rfl
 rw[a5] at a2
 rw[Re.enc_eq,Re.size_eq,Nat.add_mul]
 simp only[List.length_append]
 omega
def encP (p:Pat):List Nat:=uv (zz p.caps)++[if p.runes=true then 1 else 0]++p.re.enc
def wO2 (bs:List Nat):VL.Obj:=⟨0,true,1,[[.so 2 bs.length 0 bs.length]]⟩
theorem ren_w2 (bs:List Nat) (l:List Nat):renO (1::2::l) (wO bs)=wO2 bs:=rfl
theorem call_w2 {P:Program} {f:FuncId} {cargs args:List V} {bs bs':List Nat} {o:VL.Obj} {rest:List VL.Obj} {r r':V} {K:V→List VL.Obj→Prop} (h:callWp P f cargs [wO bs,arO bs] fun v s=>v=r∧s=[wO bs',arO bs']) (ha:args=cargs.map (renV [1,2])) (hra:refsV.go 2 cargs=true) (hr:renV [1,2] r=r')
  (hk:K r' (o::wO2 bs'::arO bs'::rest)):callWp P f args (o::wO2 bs::arO bs::rest) K:=by
 refine call_map [1,2] h (by decide) rfl (by simp [ren_w2,renO_arO]) ha hra (by simp [objOk_wO,objOk_arO]) hr ?_
 simpa [putObjs,ren_w2,renO_arO] using hk
theorem encode_ok2 (c:Nat) (hc:c≤400000000) (p:Pat) (hev:p.re.every (smallB c)=true) (hcap:I64 p.caps) (hlen:p.re.enc.length≤900000000):PureOK prog 46 [.ag ((patC p).map .d)] (.d (bytesD (encP p))):=by
 have hu:=uv_len (zz p.caps)
 have k1:=wint_ok p.caps hcap [] (by simp)
 have k2:=wbool_ok p.runes (uv (zz p.caps)) (by omega)
 have k3:=encode_rec c (by omega) p.re hev (uv (zz p.caps)++[if p.runes=true then 1 else 0]) (by simp only[List.length_append,List.length_cons,List.length_nil]; omega)
 have k3:=call_weak (ex:=[iD p.caps,bD p.runes]) k3
 have k4:=wdone_ok (encP p) (by unfold encP; simp only[List.length_append,List.length_cons,List.length_nil]; omega)
 rw[show uv (zz p.caps)++[if p.runes=true then 1 else 0]++p.re.enc=encP p from rfl] at k3
 rw[show p.re.cells++[iD p.caps,bD p.runes]=patC p from rfl] at k3
 rw[List.nil_append] at k1
 generalize encP p=E at *
 generalize uv (zz p.caps)=A at *
 generalize (if p.runes=true then (1:Nat) else 0)=bt at *
 simp only[patC_eq p,iD,bD,bV,i64] at k1 k2 k3 ⊢
 refine fn_ok func46 rfl ntmps46 results46 rfl 0 31 (by simp) (by simp) ?_
 simp only[zX,Nat.reduceShiftRight,Nat.reduceMod,Nat.reduceLT,Nat.reduceMul,Nat.reduceSub,Int.reduceToNat,Int.reduceNeg,Int.reduceLT,Int.reduceLE,Int.reduceEq,Nat.reduceEqDiff,Nat.reduceAdd,Nat.reduceLeDiff,reduceIte,reduceCtorEq,Nat.reduceBEq,i64,iD,bD,List.map_cons,List.map_nil]
 refine call_reserve (pre:=[]) (post:=[]) 1 1 rfl rfl rfl ?_
 refine call_w2 (bs:=[]) (rest:=[]) k1 rfl rfl rfl ?_
 simp only[zX,Nat.reduceShiftRight,Nat.reduceMod,Nat.reduceLT,Nat.reduceMul,Nat.reduceSub,Int.reduceToNat,Int.reduceNeg,Int.reduceLT,Int.reduceLE,Int.reduceEq,Nat.reduceEqDiff,Nat.reduceAdd,Nat.reduceLeDiff,reduceIte,reduceCtorEq,Nat.reduceBEq,i64,iD,bD,List.map_cons,List.map_nil]
 refine call_w2 k2 rfl rfl rfl ?_
 simp only[zX,Nat.reduceShiftRight,Nat.reduceMod,Nat.reduceLT,Nat.reduceMul,Nat.reduceSub,Int.reduceToNat,Int.reduceNeg,Int.reduceLT,Int.reduceLE,Int.reduceEq,Nat.reduceEqDiff,Nat.reduceAdd,Nat.reduceLeDiff,reduceIte,reduceCtorEq,Nat.reduceBEq,i64,iD,bD,List.map_cons,List.map_nil]
 refine call_give [0] rfl ?_
 refine call_map [1,2,3] k3 (by decide) rfl ?_ rfl (by simp [refsV,refsV.go]) ?_ rfl ?_
 ·simp [killO,kill1,ren_w2,renO_arO]
  rfl
 ·simp [objOk,wO,arO,u8V,cell3O,refsV,refsV.go]
 simp only[killO,kill1,putObjs,List.map_cons,List.map_nil,ren_w2,renO_arO,List.getElem?_cons_zero,List.set_cons_zero,List.set_cons_succ]
 simp only[zX,Nat.reduceShiftRight,Nat.reduceMod,Nat.reduceLT,Nat.reduceMul,Nat.reduceSub,Int.reduceToNat,Int.reduceNeg,Int.reduceLT,Int.reduceLE,Int.reduceEq,Nat.reduceEqDiff,Nat.reduceAdd,Nat.reduceLeDiff,reduceIte,reduceCtorEq,Nat.reduceBEq,i64,iD,bD,List.map_cons,List.map_nil]
 refine call_w2 k4 rfl rfl rfl ?_
 simp only[zX,Nat.reduceShiftRight,Nat.reduceMod,Nat.reduceLT,Nat.reduceMul,Nat.reduceSub,Int.reduceToNat,Int.reduceNeg,Int.reduceLT,Int.reduceLE,Int.reduceEq,Nat.reduceEqDiff,Nat.reduceAdd,Nat.reduceLeDiff,reduceIte,reduceCtorEq,Nat.reduceBEq,i64,iD,bD,List.map_cons,List.map_nil]
 rfl
theorem encode_ok (c:Nat) (hc:c≤2000) (p:Pat) (hp:p.small c):PureOK prog 46 [.ag ((patC p).map .d)] (.d (bytesD (encP p))):=by
 have hen:=enc_len c p.re hp.ev
 have hsz:=hp.sz
 refine encode_ok2 c (by omega) p hp.ev hp.caps ?_
 have h1:p.re.size * (11 * (2 * c + 10))≤2000 * (11 * (2 * 2000 + 10)):=Nat.mul_le_mul (by omega) (by omega)
 omega
end Go.Proofs.Ytafbdphblilenaa
