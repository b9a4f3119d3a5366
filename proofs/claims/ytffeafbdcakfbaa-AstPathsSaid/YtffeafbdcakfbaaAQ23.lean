/- A part of the proof (F114). -/
import Derived.Test.YtffeafbdcakfbaaAQ22
import Derived.Test.YtffeafbdcakfbaaAQ21
set_option linter.unusedSimpArgs false
set_option linter.unusedVariables false
set_option maxRecDepth 100000
set_option maxHeartbeats 80000000
set_option linter.unusedSimpArgs false
set_option linter.unusedVariables false
namespace Go.Proofs.Ytffeafbdcakfbaa
open Go.VL Go.Proofs.Try
def PutOK (re x:Re) (p:List Int):Prop:=PureOK prog 15 [reV re,.d (intsD p),reV x] (.tu [reV (re.putR p x).1,i64 (re.putR p x).2])
theorem get3 {α:Type} {a b c:α} {l r:List α} {t:Nat} {o:α} (h:l[t]?=some o):(a::b::c::(l++r))[3 + t]?=some o:=by
 rw[show 3 + t=t + 3 by omega]
 simp only[List.getElem?_cons_succ]
 rw[List.getElem?_append_left (List.getElem?_eq_some_iff.1 h).1]
 exact h
theorem put_bad (re x:Re) (p:List Int) (hf:re.fine=true) (hp:p.length≤1000000) (ho:¬okP re p):PutOK re x p:=by
 have hfi:=find_ok p re hf hp
 rw[findV_bad ho,Re.cells_eq re] at hfi
 unfold PutOK
 rw[putR_bad x p re ho]
 refine fn_ok func15 rfl ntmps15 results15 rfl 0 495 (by simp) (by simp) ?_
 simp only[zX,Nat.reduceShiftRight,Nat.reduceMod,Nat.reduceLT,Nat.reduceMul,Nat.reduceSub,Int.reduceToNat,Int.reduceNeg,Int.reduceLT,Int.reduceLE,Int.reduceEq,Nat.reduceEqDiff,Nat.reduceAdd,Nat.reduceLeDiff,reduceIte,reduceCtorEq,Nat.reduceBEq,i64,reV_eq re,reV_eq x,iD,bD]
 refine call_give [0] rfl ?_
 refine call_pure hfi rfl rfl ?_
 simp only[zX,Nat.reduceShiftRight,Nat.reduceMod,Nat.reduceLT,Nat.reduceMul,Nat.reduceSub,Int.reduceToNat,Int.reduceNeg,Int.reduceLT,Int.reduceLE,Int.reduceEq,Nat.reduceEqDiff,Nat.reduceAdd,Nat.reduceLeDiff,reduceIte,reduceCtorEq,Nat.reduceBEq,i64,iD,bD,reV_zero,killO,kill1,List.set_cons_zero,List.set_cons_succ]
 exact⟨_,rfl⟩
theorem put_ok0 (re x:Re) (p:List Int) (hp:p.length=0) (hf:re.fine=true) (hx:x.fine=true) (ho:okP re p):PutOK re x p:=by
 obtain rfl:p=[]:=List.eq_nil_of_length_eq_zero hp
 have hfi:=find_ok [] re hf (by first | omega | simp)
 rw[findV_ok ho,Re.cells_eq re] at hfi
 have hcx:=clone_ok x hx
 have hcl:=clone_ch0 re hf
 have hfc:=find_ch (re.atR []).1.cells [] re hf (by first | omega | simp) ho
 have hpo:=putR_ok x [] re ho
 unfold PutOK
 rw[hpo]
 rw[reV_eq x] at hcx
 unfold CloneCh at hcl
 rw[reV_eq re] at hcl
 have hcr:=chC_ren (ρ:=[]) (b:=0) (b':=3) (re.atR []).1.cells re [] (fun hne=>by first | rfl | exact(hne rfl).elim)
 have hcr2:=chC_ren (ρ:=[3]) (b:=1) (b':=3) (re.atR []).1.cells re [] (fun hne=>by first | rfl | exact(hne rfl).elim)
 have hor:=chO_ren (ρ:=[]) (re.atR []).1.cells [] 0 3 re (fun j h1 h2=>by first | (exfalso; omega) | (exfalso; simp at h2; done) | (rcases(show False by omega) with h <;> rfl))
 have hor2:=chO_ren (ρ:=[3]) (re.atR []).1.cells [] 1 3 re (fun j h1 h2=>by first | (exfalso; omega) | (exfalso; simp at h2; done) | (rcases(show False by omega) with h <;> rfl))
 have her:=endR_ren (ρ:=[3]) [] (.rf 0 0 0 0) 1 3 re (fun j h2=>by first | (exfalso; omega) | (exfalso; simp at h2; done) | (rcases(show False by omega) with h <;> rfl))
 have hlc:=chO_len ((re.atR []).1.cells.map V.d) [] 0 re ho
 have hlc2:=chO_len ((re.atR []).1.cells.map V.d) [] 1 re ho
 have hob:=chO_obj 1 (re.atR []).1.cells [] 1 re (by first | omega | simp)
 have hcf:=chC_refs 1 1 (re.atR []).1.cells re [] (fun hne=>by first | omega | exact(hne rfl).elim)
 refine fn_ok func15 rfl ntmps15 results15 rfl 0 495 (by simp) (by simp) ?_
 simp only[zX,Nat.reduceShiftRight,Nat.reduceMod,Nat.reduceLT,Nat.reduceMul,Nat.reduceSub,Int.reduceToNat,Int.reduceNeg,Int.reduceLT,Int.reduceLE,Int.reduceEq,Nat.reduceEqDiff,Nat.reduceAdd,Nat.reduceLeDiff,reduceIte,reduceCtorEq,Nat.reduceBEq,i64,reV_eq re,reV_eq x,iD,bD]
 refine call_give [0] rfl ?_
 refine call_pure hfi rfl rfl ?_
 simp only[zX,Nat.reduceShiftRight,Nat.reduceMod,Nat.reduceLT,Nat.reduceMul,Nat.reduceSub,Int.reduceToNat,Int.reduceNeg,Int.reduceLT,Int.reduceLE,Int.reduceEq,Nat.reduceEqDiff,Nat.reduceAdd,Nat.reduceLeDiff,reduceIte,reduceCtorEq,Nat.reduceBEq,i64,iD,bD,killO,kill1,List.set_cons_zero,List.set_cons_succ]
 refine⟨⟨_,rfl⟩,?_⟩
 refine call_map [] hcl (by decide) (by rw[hlc]; first | exact hp | rfl) rfl rfl (by simp [refsV,refsV.go]) rfl (congrArg V.ag hcr) ?_
 rw[hor]
 simp only[putObjs,List.set_cons_succ,List.set_cons_zero,List.cons_append,List.nil_append,chK]
 simp only[zX,Nat.reduceShiftRight,Nat.reduceMod,Nat.reduceLT,Nat.reduceMul,Nat.reduceSub,Int.reduceToNat,Int.reduceNeg,Int.reduceLT,Int.reduceLE,Int.reduceEq,Nat.reduceEqDiff,Nat.reduceAdd,Nat.reduceLeDiff,reduceIte,reduceCtorEq,Nat.reduceBEq,i64,iD,bD,chC,atR_nil,Re.cells_eq re,List.map_cons,List.map_nil,List.length_cons,List.length_nil]
 have hXl:(⟨0,true,8,[chC 1 ((re.atR []).1.cells.map V.d) re []]⟩::chO ((re.atR []).1.cells.map V.d) 1 re []:List VL.Obj).length=1:=by rw[List.length_cons,hlc2]; first | omega | rfl
 have hXo:(⟨0,true,8,[chC 1 ((re.atR []).1.cells.map V.d) re []]⟩::chO ((re.atR []).1.cells.map V.d) 1 re []:List VL.Obj).all (objOk 1)=true:=by
  rw[List.all_cons,hob,Bool.and_true]
  simp only[objOk,List.all_cons,List.all_nil,Bool.and_true]
  exact hcf
 have hXr:(⟨0,true,8,[chC 1 ((re.atR []).1.cells.map V.d) re []]⟩::chO ((re.atR []).1.cells.map V.d) 1 re []:List VL.Obj).map (renO [3])=[⟨0,true,8,[[V.d (D.sc (Value.int IntKind.i64 re.op)),V.d (D.sl (re.set.map spanC)),V.d (D.sl (re.kids.map Re.cells)),V.d (D.sc (Value.int IntKind.i64 re.mn)),V.d (D.sc (Value.int IntKind.i64 re.mx)),V.d (D.sc (Value.int IntKind.i64 re.mode)),V.d (D.sc (Value.int IntKind.i64 re.n)),V.d (D.sc (Value.bool re.neg))]]⟩]:=by
  rw[chO_nil,List.map_cons,List.map_nil,renO]
  simp only[List.map_cons,List.map_nil,hcr2]
  rw[show chC 3 ((re.atR []).1.cells.map V.d) re []=(re.atR []).1.cells.map V.d from rfl,atR_nil,Re.cells_eq re]
  rfl
 generalize (⟨0,true,8,[chC 1 ((re.atR []).1.cells.map V.d) re []]⟩::chO ((re.atR []).1.cells.map V.d) 1 re []:List VL.Obj)=X at hfc hXl hXo hXr
 refine draw_c mix [5] [(1,[3],[3]),(4,[3],[])] (by rfl) ?_
 simp only[zX,Nat.reduceShiftRight,Nat.reduceMod,Nat.reduceLT,Nat.reduceMul,Nat.reduceSub,Int.reduceToNat,Int.reduceNeg,Int.reduceLT,Int.reduceLE,Int.reduceEq,Nat.reduceEqDiff,Nat.reduceAdd,Nat.reduceLeDiff,reduceIte,reduceCtorEq,Nat.reduceBEq,i64,iD,bD]
 refine callF_map [3] hfc (by decide) rfl (by rw[show X.map (fun o=>some (renO [3] o))=(X.map (renO [3])).map some by rw[List.map_map]; rfl,hXr]; rfl) rfl (by simp [refsV.go,refsV,hXl]) (by rw[hXl]; exact hXo) (show renV [3] _=.rf 3 0 0 0 by rw[endR_nil]; rfl) ?_
 rw[hXr]
 simp only[putObjs,List.set_cons_succ,List.set_cons_zero]
 simp only[zX,Nat.reduceShiftRight,Nat.reduceMod,Nat.reduceLT,Nat.reduceMul,Nat.reduceSub,Int.reduceToNat,Int.reduceNeg,Int.reduceLT,Int.reduceLE,Int.reduceEq,Nat.reduceEqDiff,Nat.reduceAdd,Nat.reduceLeDiff,reduceIte,reduceCtorEq,Nat.reduceBEq,i64,iD,bD]
 refine callC_pure hcx (by simp [refsV,refsV.go]) (by simp [refsV,refsV.go]) ?_
 simp only[zX,Nat.reduceShiftRight,Nat.reduceMod,Nat.reduceLT,Nat.reduceMul,Nat.reduceSub,Int.reduceToNat,Int.reduceNeg,Int.reduceLT,Int.reduceLE,Int.reduceEq,Nat.reduceEqDiff,Nat.reduceAdd,Nat.reduceLeDiff,reduceIte,reduceCtorEq,Nat.reduceBEq,i64,iD,bD,Re.cells_eq re,List.map_cons,List.map_nil]
 rw[putR_nil,reV_eq x]; rfl
theorem put_ok1 (re x:Re) (p:List Int) (hp:p.length=1) (hf:re.fine=true) (hx:x.fine=true) (ho:okP re p):PutOK re x p:=by
 have hfi:=find_ok p re hf (by first | omega | simp)
 rw[findV_ok ho,Re.cells_eq re] at hfi
 have hcx:=clone_ok x hx
 have hcl:=clone_ch1 re hf p hp ho
 have hfc:=find_ch (re.atR p).1.cells p re hf (by first | omega | simp) ho
 have hpo:=putR_ok x p re ho
 unfold PutOK
 rw[hpo]
 rw[reV_eq x] at hcx
 unfold CloneCh at hcl
 rw[reV_eq re] at hcl
 have hcr:=chC_ren (ρ:=[3]) (b:=0) (b':=3) (re.atR p).1.cells re p (fun hne=>by first | rfl | exact(hne rfl).elim)
 have hcr2:=chC_ren (ρ:=[4,3]) (b:=1) (b':=3) (re.atR p).1.cells re p (fun hne=>by first | rfl | exact(hne rfl).elim)
 have hor:=chO_ren (ρ:=[3]) (re.atR p).1.cells p 0 3 re (fun j h1 h2=>by first | (exfalso; omega) | (exfalso; simp at h2; done) | (rcases(show False by omega) with h <;> rfl))
 have hor2:=chO_ren (ρ:=[4,3]) (re.atR p).1.cells p 1 3 re (fun j h1 h2=>by first | (exfalso; omega) | (exfalso; simp at h2; done) | (rcases(show False by omega) with h <;> rfl))
 have her:=endR_ren (ρ:=[4,3]) p (.rf 0 0 0 0) 1 3 re (fun j h2=>by first | (exfalso; omega) | (exfalso; simp at h2; done) | (rcases(show j=0 by omega) with rfl <;> rfl))
 have hlc:=chO_len ((re.atR p).1.cells.map V.d) p 0 re ho
 have hlc2:=chO_len ((re.atR p).1.cells.map V.d) p 1 re ho
 have hob:=chO_obj 2 (re.atR p).1.cells p 1 re (by first | omega | simp)
 have hcf:=chC_refs 2 1 (re.atR p).1.cells re p (fun hne=>by first | omega | exact(hne rfl).elim)
 have hso:∀s:List VL.Obj,(∀t o,(chO (x.cells.map V.d) 3 re p)[t]?=some o→s[3 + t]?=some o)→frzD 8 0 s (.so 3 (re.kids.length + 1) 0 re.kids.length)=some (.sl ((re.putR p x).1.kids.map Re.cells)):=by
  intro s hs
  obtain⟨a,q,rfl⟩:∃a q,p=a::q:=by
   cases p with
   | nil=>simp at hp
   | cons a q=>exact⟨a,q,rfl⟩
  exact ch_so (n:=7) ho (by simp only[List.length_cons] at hp; omega) (Nat.zero_le _) hs
 have hpc:(re.putR p x).1=re.setKids (re.putR p x).1.kids:=by
  obtain⟨a,q,rfl⟩:∃a q,p=a::q:=by
   cases p with
   | nil=>simp at hp
   | cons a q=>exact⟨a,q,rfl⟩
  obtain⟨h0,k,hk,hok⟩:=okP_cons.1 ho
  rw[putR_set x h0 hk hok,Re.setKids_kids]
 obtain⟨pre,g,h,els,hpl,hh,hend,hch⟩:=chO_last p 3 re ho (by rintro rfl; simp at hp)
 obtain rfl:pre=[]:=List.eq_nil_of_length_eq_zero (by omega)
 have hcK:∀c,chC 3 c re p=chK re (.so 3 (re.kids.length + 1) 0 re.kids.length):=by
  intro c
  cases p with
  | nil=>simp at hp
  | cons a q=>rfl
 refine fn_ok func15 rfl ntmps15 results15 rfl 0 495 (by simp) (by simp) ?_
 simp only[zX,Nat.reduceShiftRight,Nat.reduceMod,Nat.reduceLT,Nat.reduceMul,Nat.reduceSub,Int.reduceToNat,Int.reduceNeg,Int.reduceLT,Int.reduceLE,Int.reduceEq,Nat.reduceEqDiff,Nat.reduceAdd,Nat.reduceLeDiff,reduceIte,reduceCtorEq,Nat.reduceBEq,i64,reV_eq re,reV_eq x,iD,bD]
 refine call_give [0] rfl ?_
 refine call_pure hfi rfl rfl ?_
 simp only[zX,Nat.reduceShiftRight,Nat.reduceMod,Nat.reduceLT,Nat.reduceMul,Nat.reduceSub,Int.reduceToNat,Int.reduceNeg,Int.reduceLT,Int.reduceLE,Int.reduceEq,Nat.reduceEqDiff,Nat.reduceAdd,Nat.reduceLeDiff,reduceIte,reduceCtorEq,Nat.reduceBEq,i64,iD,bD,killO,kill1,List.set_cons_zero,List.set_cons_succ]
 refine⟨⟨_,rfl⟩,?_⟩
 refine call_room 8 ?_
 refine call_map [3] hcl (by decide) (by rw[hlc]; first | exact hp | rfl) rfl rfl (by simp [refsV,refsV.go]) rfl (congrArg V.ag hcr) ?_
 rw[hor]
 rw[hcK,hch]
 rw[hcK] at hcr2
 simp only[putObjs,List.set_cons_succ,List.set_cons_zero,List.cons_append,List.nil_append,chK]
 simp only[zX,Nat.reduceShiftRight,Nat.reduceMod,Nat.reduceLT,Nat.reduceMul,Nat.reduceSub,Int.reduceToNat,Int.reduceNeg,Int.reduceLT,Int.reduceLE,Int.reduceEq,Nat.reduceEqDiff,Nat.reduceAdd,Nat.reduceLeDiff,reduceIte,reduceCtorEq,Nat.reduceBEq,i64,iD,bD]
 have hXl:(⟨0,true,8,[chC 1 ((re.atR p).1.cells.map V.d) re p]⟩::chO ((re.atR p).1.cells.map V.d) 1 re p:List VL.Obj).length=2:=by rw[List.length_cons,hlc2]; first | omega | rfl
 have hXo:(⟨0,true,8,[chC 1 ((re.atR p).1.cells.map V.d) re p]⟩::chO ((re.atR p).1.cells.map V.d) 1 re p:List VL.Obj).all (objOk 2)=true:=by
  rw[List.all_cons,hob,Bool.and_true]
  simp only[objOk,List.all_cons,List.all_nil,Bool.and_true]
  exact hcf
 have hXr:(⟨0,true,8,[chC 1 ((re.atR p).1.cells.map V.d) re p]⟩::chO ((re.atR p).1.cells.map V.d) 1 re p:List VL.Obj).map (renO [4,3])=[⟨0,true,8,[chK re (.so 3 (re.kids.length + 1) 0 re.kids.length)]⟩,⟨g,true,8,els.set h ((re.atR p).1.cells.map V.d)⟩]:=by
  rw[List.map_cons,hor2,hch,renO]; simp only[List.map_cons,List.map_nil,hcr2]; rfl
 generalize (⟨0,true,8,[chC 1 ((re.atR p).1.cells.map V.d) re p]⟩::chO ((re.atR p).1.cells.map V.d) 1 re p:List VL.Obj)=X at hfc hXl hXo hXr
 refine draw_c mix [5] [(1,[4,3],[4,3]),(4,[4,3],[])] (by rfl) ?_
 simp only[zX,Nat.reduceShiftRight,Nat.reduceMod,Nat.reduceLT,Nat.reduceMul,Nat.reduceSub,Int.reduceToNat,Int.reduceNeg,Int.reduceLT,Int.reduceLE,Int.reduceEq,Nat.reduceEqDiff,Nat.reduceAdd,Nat.reduceLeDiff,reduceIte,reduceCtorEq,Nat.reduceBEq,i64,iD,bD]
 refine callF_map [4,3] hfc (by decide) rfl (by rw[show X.map (fun o=>some (renO [4,3] o))=(X.map (renO [4,3])).map some by rw[List.map_map]; rfl,hXr]; rfl) rfl (by simp [refsV.go,refsV,hXl]) (by rw[hXl]; exact hXo) (show renV [4,3] _=.rf 3 g h 0 by rw[her,hend]; rfl) ?_
 rw[hXr]
 simp only[putObjs,List.set_cons_succ,List.set_cons_zero]
 simp only[zX,Nat.reduceShiftRight,Nat.reduceMod,Nat.reduceLT,Nat.reduceMul,Nat.reduceSub,Int.reduceToNat,Int.reduceNeg,Int.reduceLT,Int.reduceLE,Int.reduceEq,Nat.reduceEqDiff,Nat.reduceAdd,Nat.reduceLeDiff,reduceIte,reduceCtorEq,Nat.reduceBEq,i64,iD,bD]
 refine callC_pure hcx (by simp [refsV,refsV.go]) (by simp [refsV,refsV.go]) ?_
 have hget:(els.set h ((re.atR p).1.cells.map V.d))[h]?=some ((re.atR p).1.cells.map V.d):=List.getElem?_set_self hh
 have hC8:((re.atR p).1.cells.map V.d).length=8:=by simp [Re.cells_len]
 generalize (re.atR p).1.cells.map V.d=C at *
 simp only[zX,Nat.reduceShiftRight,Nat.reduceMod,Nat.reduceLT,Nat.reduceMul,Nat.reduceSub,Int.reduceToNat,Int.reduceNeg,Int.reduceLT,Int.reduceLE,Int.reduceEq,Nat.reduceEqDiff,Nat.reduceAdd,Nat.reduceLeDiff,reduceIte,reduceCtorEq,Nat.reduceBEq,i64,iD,bD,hget,hC8]
 have hlast:(els.set h C).set h (V.d (D.sc (Value.int IntKind.i64 x.op))::V.d (D.sl (List.map spanC x.set))::V.d (D.sl (List.map Re.cells x.kids))::V.d (D.sc (Value.int IntKind.i64 x.mn))::V.d (D.sc (Value.int IntKind.i64 x.mx))::V.d (D.sc (Value.int IntKind.i64 x.mode))::V.d (D.sc (Value.int IntKind.i64 x.n))::V.d (D.sc (Value.bool x.neg))::List.drop 8 C)=els.set h (x.cells.map V.d):=by
  rw[List.set_set,List.drop_of_length_le (by omega),Re.cells_eq x]; rfl
 rw[hlast]
 have hgo:∀s:List VL.Obj,(∀t o,(chO (x.cells.map V.d) 3 re p)[t]?=some o→s[3 + t]?=some o)→frzV.go 0 s (chC 3 (x.cells.map V.d) re p)=some ((re.putR p x).1.cells.map V.d):=fun s hs=>ch_frzV ho (by omega) hs
 rw[hcK,hch] at hgo
 refine⟨by simp [chK],by simp [chK],by simp [chK],?_⟩
 simp only[chK,List.take_succ_cons,List.take_zero,List.length_cons,List.length_nil,Nat.zero_add,Nat.reduceAdd,List.drop_succ_cons,List.drop_zero,List.drop_nil,List.cons_append,List.nil_append] at hgo ⊢
 rw[hgo]
 ·rfl
 ·exact fun t o ht=>get3 (r:=[_]) ht
theorem put_ok2 (re x:Re) (p:List Int) (hp:p.length=2) (hf:re.fine=true) (hx:x.fine=true) (ho:okP re p):PutOK re x p:=by
 have hfi:=find_ok p re hf (by first | omega | simp)
 rw[findV_ok ho,Re.cells_eq re] at hfi
 have hcx:=clone_ok x hx
 have hcl:=clone_ch2 re hf p hp ho
 have hfc:=find_ch (re.atR p).1.cells p re hf (by first | omega | simp) ho
 have hpo:=putR_ok x p re ho
 unfold PutOK
 rw[hpo]
 rw[reV_eq x] at hcx
 unfold CloneCh at hcl
 rw[reV_eq re] at hcl
 have hcr:=chC_ren (ρ:=[3,4]) (b:=0) (b':=3) (re.atR p).1.cells re p (fun hne=>by first | rfl | exact(hne rfl).elim)
 have hcr2:=chC_ren (ρ:=[5,3,4]) (b:=1) (b':=3) (re.atR p).1.cells re p (fun hne=>by first | rfl | exact(hne rfl).elim)
 have hor:=chO_ren (ρ:=[3,4]) (re.atR p).1.cells p 0 3 re (fun j h1 h2=>by first | (exfalso; omega) | (exfalso; simp at h2; done) | (rcases(show j=1 by omega) with rfl <;> rfl))
 have hor2:=chO_ren (ρ:=[5,3,4]) (re.atR p).1.cells p 1 3 re (fun j h1 h2=>by first | (exfalso; omega) | (exfalso; simp at h2; done) | (rcases(show j=1 by omega) with rfl <;> rfl))
 have her:=endR_ren (ρ:=[5,3,4]) p (.rf 0 0 0 0) 1 3 re (fun j h2=>by first | (exfalso; omega) | (exfalso; simp at h2; done) | (rcases(show j=0∨j=1 by omega) with rfl | rfl <;> rfl))
 have hlc:=chO_len ((re.atR p).1.cells.map V.d) p 0 re ho
 have hlc2:=chO_len ((re.atR p).1.cells.map V.d) p 1 re ho
 have hob:=chO_obj 3 (re.atR p).1.cells p 1 re (by first | omega | simp)
 have hcf:=chC_refs 3 1 (re.atR p).1.cells re p (fun hne=>by first | omega | exact(hne rfl).elim)
 have hso:∀s:List VL.Obj,(∀t o,(chO (x.cells.map V.d) 3 re p)[t]?=some o→s[3 + t]?=some o)→frzD 8 0 s (.so 3 (re.kids.length + 1) 0 re.kids.length)=some (.sl ((re.putR p x).1.kids.map Re.cells)):=by
  intro s hs
  obtain⟨a,q,rfl⟩:∃a q,p=a::q:=by
   cases p with
   | nil=>simp at hp
   | cons a q=>exact⟨a,q,rfl⟩
  exact ch_so (n:=7) ho (by simp only[List.length_cons] at hp; omega) (Nat.zero_le _) hs
 have hpc:(re.putR p x).1=re.setKids (re.putR p x).1.kids:=by
  obtain⟨a,q,rfl⟩:∃a q,p=a::q:=by
   cases p with
   | nil=>simp at hp
   | cons a q=>exact⟨a,q,rfl⟩
  obtain⟨h0,k,hk,hok⟩:=okP_cons.1 ho
  rw[putR_set x h0 hk hok,Re.setKids_kids]
 obtain⟨pre,g,h,els,hpl,hh,hend,hch⟩:=chO_last p 3 re ho (by rintro rfl; simp at hp)
 obtain⟨b0,rfl⟩:∃b0:VL.Obj,pre=[b0]:=by
  have:pre.length=1:=by omega
  match pre,this with
  | [_],_=>exact⟨_,rfl⟩
 have hcK:∀c,chC 3 c re p=chK re (.so 3 (re.kids.length + 1) 0 re.kids.length):=by
  intro c
  cases p with
  | nil=>simp at hp
  | cons a q=>rfl
 refine fn_ok func15 rfl ntmps15 results15 rfl 0 495 (by simp) (by simp) ?_
 simp only[zX,Nat.reduceShiftRight,Nat.reduceMod,Nat.reduceLT,Nat.reduceMul,Nat.reduceSub,Int.reduceToNat,Int.reduceNeg,Int.reduceLT,Int.reduceLE,Int.reduceEq,Nat.reduceEqDiff,Nat.reduceAdd,Nat.reduceLeDiff,reduceIte,reduceCtorEq,Nat.reduceBEq,i64,reV_eq re,reV_eq x,iD,bD]
 refine call_give [0] rfl ?_
 refine call_pure hfi rfl rfl ?_
 simp only[zX,Nat.reduceShiftRight,Nat.reduceMod,Nat.reduceLT,Nat.reduceMul,Nat.reduceSub,Int.reduceToNat,Int.reduceNeg,Int.reduceLT,Int.reduceLE,Int.reduceEq,Nat.reduceEqDiff,Nat.reduceAdd,Nat.reduceLeDiff,reduceIte,reduceCtorEq,Nat.reduceBEq,i64,iD,bD,killO,kill1,List.set_cons_zero,List.set_cons_succ]
 refine⟨⟨_,rfl⟩,?_⟩
 refine call_room 8 ?_
 refine call_room 8 ?_
 refine call_map [3,4] hcl (by decide) (by rw[hlc]; first | exact hp | rfl) rfl rfl (by simp [refsV,refsV.go]) rfl (congrArg V.ag hcr) ?_
 rw[hor]
 rw[hcK,hch]
 rw[hcK] at hcr2
 simp only[putObjs,List.set_cons_succ,List.set_cons_zero,List.cons_append,List.nil_append,chK]
 simp only[zX,Nat.reduceShiftRight,Nat.reduceMod,Nat.reduceLT,Nat.reduceMul,Nat.reduceSub,Int.reduceToNat,Int.reduceNeg,Int.reduceLT,Int.reduceLE,Int.reduceEq,Nat.reduceEqDiff,Nat.reduceAdd,Nat.reduceLeDiff,reduceIte,reduceCtorEq,Nat.reduceBEq,i64,iD,bD]
 have hXl:(⟨0,true,8,[chC 1 ((re.atR p).1.cells.map V.d) re p]⟩::chO ((re.atR p).1.cells.map V.d) 1 re p:List VL.Obj).length=3:=by rw[List.length_cons,hlc2]; first | omega | rfl
 have hXo:(⟨0,true,8,[chC 1 ((re.atR p).1.cells.map V.d) re p]⟩::chO ((re.atR p).1.cells.map V.d) 1 re p:List VL.Obj).all (objOk 3)=true:=by
  rw[List.all_cons,hob,Bool.and_true]
  simp only[objOk,List.all_cons,List.all_nil,Bool.and_true]
  exact hcf
 have hXr:(⟨0,true,8,[chC 1 ((re.atR p).1.cells.map V.d) re p]⟩::chO ((re.atR p).1.cells.map V.d) 1 re p:List VL.Obj).map (renO [5,3,4])=[⟨0,true,8,[chK re (.so 3 (re.kids.length + 1) 0 re.kids.length)]⟩,b0,⟨g,true,8,els.set h ((re.atR p).1.cells.map V.d)⟩]:=by
  rw[List.map_cons,hor2,hch,renO]; simp only[List.map_cons,List.map_nil,hcr2]; rfl
 generalize (⟨0,true,8,[chC 1 ((re.atR p).1.cells.map V.d) re p]⟩::chO ((re.atR p).1.cells.map V.d) 1 re p:List VL.Obj)=X at hfc hXl hXo hXr
 refine draw_c mix [5] [(1,[5,3,4],[5,3,4]),(4,[5,3,4],[])] (by rfl) ?_
 simp only[zX,Nat.reduceShiftRight,Nat.reduceMod,Nat.reduceLT,Nat.reduceMul,Nat.reduceSub,Int.reduceToNat,Int.reduceNeg,Int.reduceLT,Int.reduceLE,Int.reduceEq,Nat.reduceEqDiff,Nat.reduceAdd,Nat.reduceLeDiff,reduceIte,reduceCtorEq,Nat.reduceBEq,i64,iD,bD]
 refine callF_map [5,3,4] hfc (by decide) rfl (by rw[show X.map (fun o=>some (renO [5,3,4] o))=(X.map (renO [5,3,4])).map some by rw[List.map_map]; rfl,hXr]; rfl) rfl (by simp [refsV.go,refsV,hXl]) (by rw[hXl]; exact hXo) (show renV [5,3,4] _=.rf 4 g h 0 by rw[her,hend]; rfl) ?_
 rw[hXr]
 simp only[putObjs,List.set_cons_succ,List.set_cons_zero]
 simp only[zX,Nat.reduceShiftRight,Nat.reduceMod,Nat.reduceLT,Nat.reduceMul,Nat.reduceSub,Int.reduceToNat,Int.reduceNeg,Int.reduceLT,Int.reduceLE,Int.reduceEq,Nat.reduceEqDiff,Nat.reduceAdd,Nat.reduceLeDiff,reduceIte,reduceCtorEq,Nat.reduceBEq,i64,iD,bD]
 refine callC_pure hcx (by simp [refsV,refsV.go]) (by simp [refsV,refsV.go]) ?_
 have hget:(els.set h ((re.atR p).1.cells.map V.d))[h]?=some ((re.atR p).1.cells.map V.d):=List.getElem?_set_self hh
 have hC8:((re.atR p).1.cells.map V.d).length=8:=by simp [Re.cells_len]
 generalize (re.atR p).1.cells.map V.d=C at *
 simp only[zX,Nat.reduceShiftRight,Nat.reduceMod,Nat.reduceLT,Nat.reduceMul,Nat.reduceSub,Int.reduceToNat,Int.reduceNeg,Int.reduceLT,Int.reduceLE,Int.reduceEq,Nat.reduceEqDiff,Nat.reduceAdd,Nat.reduceLeDiff,reduceIte,reduceCtorEq,Nat.reduceBEq,i64,iD,bD,hget,hC8]
 have hlast:(els.set h C).set h (V.d (D.sc (Value.int IntKind.i64 x.op))::V.d (D.sl (List.map spanC x.set))::V.d (D.sl (List.map Re.cells x.kids))::V.d (D.sc (Value.int IntKind.i64 x.mn))::V.d (D.sc (Value.int IntKind.i64 x.mx))::V.d (D.sc (Value.int IntKind.i64 x.mode))::V.d (D.sc (Value.int IntKind.i64 x.n))::V.d (D.sc (Value.bool x.neg))::List.drop 8 C)=els.set h (x.cells.map V.d):=by
  rw[List.set_set,List.drop_of_length_le (by omega),Re.cells_eq x]; rfl
 rw[hlast]
 have hgo:∀s:List VL.Obj,(∀t o,(chO (x.cells.map V.d) 3 re p)[t]?=some o→s[3 + t]?=some o)→frzV.go 0 s (chC 3 (x.cells.map V.d) re p)=some ((re.putR p x).1.cells.map V.d):=fun s hs=>ch_frzV ho (by omega) hs
 rw[hcK,hch] at hgo
 refine⟨by simp [chK],by simp [chK],by simp [chK],?_⟩
 simp only[chK,List.take_succ_cons,List.take_zero,List.length_cons,List.length_nil,Nat.zero_add,Nat.reduceAdd,List.drop_succ_cons,List.drop_zero,List.drop_nil,List.cons_append,List.nil_append] at hgo ⊢
 rw[hgo]
 ·rfl
 ·exact fun t o ht=>get3 (r:=[_]) ht
theorem put_ok3 (re x:Re) (p:List Int) (hp:p.length=3) (hf:re.fine=true) (hx:x.fine=true) (ho:okP re p):PutOK re x p:=by
 have hfi:=find_ok p re hf (by first | omega | simp)
 rw[findV_ok ho,Re.cells_eq re] at hfi
 have hcx:=clone_ok x hx
 have hcl:=clone_ch3 re hf p hp ho
 have hfc:=find_ch (re.atR p).1.cells p re hf (by first | omega | simp) ho
 have hpo:=putR_ok x p re ho
 unfold PutOK
 rw[hpo]
 rw[reV_eq x] at hcx
 unfold CloneCh at hcl
 rw[reV_eq re] at hcl
 have hcr:=chC_ren (ρ:=[3,4,5]) (b:=0) (b':=3) (re.atR p).1.cells re p (fun hne=>by first | rfl | exact(hne rfl).elim)
 have hcr2:=chC_ren (ρ:=[6,3,4,5]) (b:=1) (b':=3) (re.atR p).1.cells re p (fun hne=>by first | rfl | exact(hne rfl).elim)
 have hor:=chO_ren (ρ:=[3,4,5]) (re.atR p).1.cells p 0 3 re (fun j h1 h2=>by first | (exfalso; omega) | (exfalso; simp at h2; done) | (rcases(show j=1∨j=2 by omega) with rfl | rfl <;> rfl))
 have hor2:=chO_ren (ρ:=[6,3,4,5]) (re.atR p).1.cells p 1 3 re (fun j h1 h2=>by first | (exfalso; omega) | (exfalso; simp at h2; done) | (rcases(show j=1∨j=2 by omega) with rfl | rfl <;> rfl))
 have her:=endR_ren (ρ:=[6,3,4,5]) p (.rf 0 0 0 0) 1 3 re (fun j h2=>by first | (exfalso; omega) | (exfalso; simp at h2; done) | (rcases(show j=0∨j=1∨j=2 by omega) with rfl | rfl | rfl <;> rfl))
 have hlc:=chO_len ((re.atR p).1.cells.map V.d) p 0 re ho
 have hlc2:=chO_len ((re.atR p).1.cells.map V.d) p 1 re ho
 have hob:=chO_obj 4 (re.atR p).1.cells p 1 re (by first | omega | simp)
 have hcf:=chC_refs 4 1 (re.atR p).1.cells re p (fun hne=>by first | omega | exact(hne rfl).elim)
 have hso:∀s:List VL.Obj,(∀t o,(chO (x.cells.map V.d) 3 re p)[t]?=some o→s[3 + t]?=some o)→frzD 8 0 s (.so 3 (re.kids.length + 1) 0 re.kids.length)=some (.sl ((re.putR p x).1.kids.map Re.cells)):=by
  intro s hs
  obtain⟨a,q,rfl⟩:∃a q,p=a::q:=by
   cases p with
   | nil=>simp at hp
   | cons a q=>exact⟨a,q,rfl⟩
  exact ch_so (n:=7) ho (by simp only[List.length_cons] at hp; omega) (Nat.zero_le _) hs
 have hpc:(re.putR p x).1=re.setKids (re.putR p x).1.kids:=by
  obtain⟨a,q,rfl⟩:∃a q,p=a::q:=by
   cases p with
   | nil=>simp at hp
   | cons a q=>exact⟨a,q,rfl⟩
  obtain⟨h0,k,hk,hok⟩:=okP_cons.1 ho
  rw[putR_set x h0 hk hok,Re.setKids_kids]
 obtain⟨pre,g,h,els,hpl,hh,hend,hch⟩:=chO_last p 3 re ho (by rintro rfl; simp at hp)
 obtain⟨b0,b1,rfl⟩:∃b0 b1:VL.Obj,pre=[b0,b1]:=by
  have:pre.length=2:=by omega
  match pre,this with
  | [_,_],_=>exact⟨_,_,rfl⟩
 have hcK:∀c,chC 3 c re p=chK re (.so 3 (re.kids.length + 1) 0 re.kids.length):=by
  intro c
  cases p with
  | nil=>simp at hp
  | cons a q=>rfl
 refine fn_ok func15 rfl ntmps15 results15 rfl 0 495 (by simp) (by simp) ?_
 simp only[zX,Nat.reduceShiftRight,Nat.reduceMod,Nat.reduceLT,Nat.reduceMul,Nat.reduceSub,Int.reduceToNat,Int.reduceNeg,Int.reduceLT,Int.reduceLE,Int.reduceEq,Nat.reduceEqDiff,Nat.reduceAdd,Nat.reduceLeDiff,reduceIte,reduceCtorEq,Nat.reduceBEq,i64,reV_eq re,reV_eq x,iD,bD]
 refine call_give [0] rfl ?_
 refine call_pure hfi rfl rfl ?_
 simp only[zX,Nat.reduceShiftRight,Nat.reduceMod,Nat.reduceLT,Nat.reduceMul,Nat.reduceSub,Int.reduceToNat,Int.reduceNeg,Int.reduceLT,Int.reduceLE,Int.reduceEq,Nat.reduceEqDiff,Nat.reduceAdd,Nat.reduceLeDiff,reduceIte,reduceCtorEq,Nat.reduceBEq,i64,iD,bD,killO,kill1,List.set_cons_zero,List.set_cons_succ]
 refine⟨⟨_,rfl⟩,?_⟩
 refine call_room 8 ?_
 refine call_room 8 ?_
 refine call_room 8 ?_
 refine call_map [3,4,5] hcl (by decide) (by rw[hlc]; first | exact hp | rfl) rfl rfl (by simp [refsV,refsV.go]) rfl (congrArg V.ag hcr) ?_
 rw[hor]
 rw[hcK,hch]
 rw[hcK] at hcr2
 simp only[putObjs,List.set_cons_succ,List.set_cons_zero,List.cons_append,List.nil_append,chK]
 simp only[zX,Nat.reduceShiftRight,Nat.reduceMod,Nat.reduceLT,Nat.reduceMul,Nat.reduceSub,Int.reduceToNat,Int.reduceNeg,Int.reduceLT,Int.reduceLE,Int.reduceEq,Nat.reduceEqDiff,Nat.reduceAdd,Nat.reduceLeDiff,reduceIte,reduceCtorEq,Nat.reduceBEq,i64,iD,bD]
 have hXl:(⟨0,true,8,[chC 1 ((re.atR p).1.cells.map V.d) re p]⟩::chO ((re.atR p).1.cells.map V.d) 1 re p:List VL.Obj).length=4:=by rw[List.length_cons,hlc2]; first | omega | rfl
 have hXo:(⟨0,true,8,[chC 1 ((re.atR p).1.cells.map V.d) re p]⟩::chO ((re.atR p).1.cells.map V.d) 1 re p:List VL.Obj).all (objOk 4)=true:=by
  rw[List.all_cons,hob,Bool.and_true]
  simp only[objOk,List.all_cons,List.all_nil,Bool.and_true]
  exact hcf
 have hXr:(⟨0,true,8,[chC 1 ((re.atR p).1.cells.map V.d) re p]⟩::chO ((re.atR p).1.cells.map V.d) 1 re p:List VL.Obj).map (renO [6,3,4,5])=[⟨0,true,8,[chK re (.so 3 (re.kids.length + 1) 0 re.kids.length)]⟩,b0,b1,⟨g,true,8,els.set h ((re.atR p).1.cells.map V.d)⟩]:=by
  rw[List.map_cons,hor2,hch,renO]; simp only[List.map_cons,List.map_nil,hcr2]; rfl
 generalize (⟨0,true,8,[chC 1 ((re.atR p).1.cells.map V.d) re p]⟩::chO ((re.atR p).1.cells.map V.d) 1 re p:List VL.Obj)=X at hfc hXl hXo hXr
 refine draw_c mix [5] [(1,[6,3,4,5],[6,3,4,5]),(4,[6,3,4,5],[])] (by rfl) ?_
 simp only[zX,Nat.reduceShiftRight,Nat.reduceMod,Nat.reduceLT,Nat.reduceMul,Nat.reduceSub,Int.reduceToNat,Int.reduceNeg,Int.reduceLT,Int.reduceLE,Int.reduceEq,Nat.reduceEqDiff,Nat.reduceAdd,Nat.reduceLeDiff,reduceIte,reduceCtorEq,Nat.reduceBEq,i64,iD,bD]
 refine callF_map [6,3,4,5] hfc (by decide) rfl (by rw[show X.map (fun o=>some (renO [6,3,4,5] o))=(X.map (renO [6,3,4,5])).map some by rw[List.map_map]; rfl,hXr]; rfl) rfl (by simp [refsV.go,refsV,hXl]) (by rw[hXl]; exact hXo) (show renV [6,3,4,5] _=.rf 5 g h 0 by rw[her,hend]; rfl) ?_
 rw[hXr]
 simp only[putObjs,List.set_cons_succ,List.set_cons_zero]
 simp only[zX,Nat.reduceShiftRight,Nat.reduceMod,Nat.reduceLT,Nat.reduceMul,Nat.reduceSub,Int.reduceToNat,Int.reduceNeg,Int.reduceLT,Int.reduceLE,Int.reduceEq,Nat.reduceEqDiff,Nat.reduceAdd,Nat.reduceLeDiff,reduceIte,reduceCtorEq,Nat.reduceBEq,i64,iD,bD]
 refine callC_pure hcx (by simp [refsV,refsV.go]) (by simp [refsV,refsV.go]) ?_
 have hget:(els.set h ((re.atR p).1.cells.map V.d))[h]?=some ((re.atR p).1.cells.map V.d):=List.getElem?_set_self hh
 have hC8:((re.atR p).1.cells.map V.d).length=8:=by simp [Re.cells_len]
 generalize (re.atR p).1.cells.map V.d=C at *
 simp only[zX,Nat.reduceShiftRight,Nat.reduceMod,Nat.reduceLT,Nat.reduceMul,Nat.reduceSub,Int.reduceToNat,Int.reduceNeg,Int.reduceLT,Int.reduceLE,Int.reduceEq,Nat.reduceEqDiff,Nat.reduceAdd,Nat.reduceLeDiff,reduceIte,reduceCtorEq,Nat.reduceBEq,i64,iD,bD,hget,hC8]
 have hlast:(els.set h C).set h (V.d (D.sc (Value.int IntKind.i64 x.op))::V.d (D.sl (List.map spanC x.set))::V.d (D.sl (List.map Re.cells x.kids))::V.d (D.sc (Value.int IntKind.i64 x.mn))::V.d (D.sc (Value.int IntKind.i64 x.mx))::V.d (D.sc (Value.int IntKind.i64 x.mode))::V.d (D.sc (Value.int IntKind.i64 x.n))::V.d (D.sc (Value.bool x.neg))::List.drop 8 C)=els.set h (x.cells.map V.d):=by
  rw[List.set_set,List.drop_of_length_le (by omega),Re.cells_eq x]; rfl
 rw[hlast]
 have hgo:∀s:List VL.Obj,(∀t o,(chO (x.cells.map V.d) 3 re p)[t]?=some o→s[3 + t]?=some o)→frzV.go 0 s (chC 3 (x.cells.map V.d) re p)=some ((re.putR p x).1.cells.map V.d):=fun s hs=>ch_frzV ho (by omega) hs
 rw[hcK,hch] at hgo
 refine⟨by simp [chK],by simp [chK],by simp [chK],?_⟩
 simp only[chK,List.take_succ_cons,List.take_zero,List.length_cons,List.length_nil,Nat.zero_add,Nat.reduceAdd,List.drop_succ_cons,List.drop_zero,List.drop_nil,List.cons_append,List.nil_append] at hgo ⊢
 rw[hgo]
 ·rfl
 ·exact fun t o ht=>get3 (r:=[_]) ht
theorem put_ok4 (re x:Re) (p:List Int) (hp:p.length=4) (hf:re.fine=true) (hx:x.fine=true) (ho:okP re p):PutOK re x p:=by
 have hfi:=find_ok p re hf (by first | omega | simp)
 rw[findV_ok ho,Re.cells_eq re] at hfi
 have hcx:=clone_ok x hx
 have hcl:=clone_ch4 re hf p hp ho
 have hfc:=find_ch (re.atR p).1.cells p re hf (by first | omega | simp) ho
 have hpo:=putR_ok x p re ho
 unfold PutOK
 rw[hpo]
 rw[reV_eq x] at hcx
 unfold CloneCh at hcl
 rw[reV_eq re] at hcl
 have hcr:=chC_ren (ρ:=[3,4,5,6]) (b:=0) (b':=3) (re.atR p).1.cells re p (fun hne=>by first | rfl | exact(hne rfl).elim)
 have hcr2:=chC_ren (ρ:=[7,3,4,5,6]) (b:=1) (b':=3) (re.atR p).1.cells re p (fun hne=>by first | rfl | exact(hne rfl).elim)
 have hor:=chO_ren (ρ:=[3,4,5,6]) (re.atR p).1.cells p 0 3 re (fun j h1 h2=>by first | (exfalso; omega) | (exfalso; simp at h2; done) | (rcases(show j=1∨j=2∨j=3 by omega) with rfl | rfl | rfl <;> rfl))
 have hor2:=chO_ren (ρ:=[7,3,4,5,6]) (re.atR p).1.cells p 1 3 re (fun j h1 h2=>by first | (exfalso; omega) | (exfalso; simp at h2; done) | (rcases(show j=1∨j=2∨j=3 by omega) with rfl | rfl | rfl <;> rfl))
 have her:=endR_ren (ρ:=[7,3,4,5,6]) p (.rf 0 0 0 0) 1 3 re (fun j h2=>by first | (exfalso; omega) | (exfalso; simp at h2; done) | (rcases(show j=0∨j=1∨j=2∨j=3 by omega) with rfl | rfl | rfl | rfl <;> rfl))
 have hlc:=chO_len ((re.atR p).1.cells.map V.d) p 0 re ho
 have hlc2:=chO_len ((re.atR p).1.cells.map V.d) p 1 re ho
 have hob:=chO_obj 5 (re.atR p).1.cells p 1 re (by first | omega | simp)
 have hcf:=chC_refs 5 1 (re.atR p).1.cells re p (fun hne=>by first | omega | exact(hne rfl).elim)
 have hso:∀s:List VL.Obj,(∀t o,(chO (x.cells.map V.d) 3 re p)[t]?=some o→s[3 + t]?=some o)→frzD 8 0 s (.so 3 (re.kids.length + 1) 0 re.kids.length)=some (.sl ((re.putR p x).1.kids.map Re.cells)):=by
  intro s hs
  obtain⟨a,q,rfl⟩:∃a q,p=a::q:=by
   cases p with
   | nil=>simp at hp
   | cons a q=>exact⟨a,q,rfl⟩
  exact ch_so (n:=7) ho (by simp only[List.length_cons] at hp; omega) (Nat.zero_le _) hs
 have hpc:(re.putR p x).1=re.setKids (re.putR p x).1.kids:=by
  obtain⟨a,q,rfl⟩:∃a q,p=a::q:=by
   cases p with
   | nil=>simp at hp
   | cons a q=>exact⟨a,q,rfl⟩
  obtain⟨h0,k,hk,hok⟩:=okP_cons.1 ho
  rw[putR_set x h0 hk hok,Re.setKids_kids]
 obtain⟨pre,g,h,els,hpl,hh,hend,hch⟩:=chO_last p 3 re ho (by rintro rfl; simp at hp)
 obtain⟨b0,b1,b2,rfl⟩:∃b0 b1 b2:VL.Obj,pre=[b0,b1,b2]:=by
  have:pre.length=3:=by omega
  match pre,this with
  | [_,_,_],_=>exact⟨_,_,_,rfl⟩
 have hcK:∀c,chC 3 c re p=chK re (.so 3 (re.kids.length + 1) 0 re.kids.length):=by
  intro c
  cases p with
  | nil=>simp at hp
  | cons a q=>rfl
 refine fn_ok func15 rfl ntmps15 results15 rfl 0 495 (by simp) (by simp) ?_
 simp only[zX,Nat.reduceShiftRight,Nat.reduceMod,Nat.reduceLT,Nat.reduceMul,Nat.reduceSub,Int.reduceToNat,Int.reduceNeg,Int.reduceLT,Int.reduceLE,Int.reduceEq,Nat.reduceEqDiff,Nat.reduceAdd,Nat.reduceLeDiff,reduceIte,reduceCtorEq,Nat.reduceBEq,i64,reV_eq re,reV_eq x,iD,bD]
 refine call_give [0] rfl ?_
 refine call_pure hfi rfl rfl ?_
 simp only[zX,Nat.reduceShiftRight,Nat.reduceMod,Nat.reduceLT,Nat.reduceMul,Nat.reduceSub,Int.reduceToNat,Int.reduceNeg,Int.reduceLT,Int.reduceLE,Int.reduceEq,Nat.reduceEqDiff,Nat.reduceAdd,Nat.reduceLeDiff,reduceIte,reduceCtorEq,Nat.reduceBEq,i64,iD,bD,killO,kill1,List.set_cons_zero,List.set_cons_succ]
 refine⟨⟨_,rfl⟩,?_⟩
 refine call_room 8 ?_
 refine call_room 8 ?_
 refine call_room 8 ?_
 refine call_room 8 ?_
 refine call_map [3,4,5,6] hcl (by decide) (by rw[hlc]; first | exact hp | rfl) rfl rfl (by simp [refsV,refsV.go]) rfl (congrArg V.ag hcr) ?_
 rw[hor]
 rw[hcK,hch]
 rw[hcK] at hcr2
 simp only[putObjs,List.set_cons_succ,List.set_cons_zero,List.cons_append,List.nil_append,chK]
 simp only[zX,Nat.reduceShiftRight,Nat.reduceMod,Nat.reduceLT,Nat.reduceMul,Nat.reduceSub,Int.reduceToNat,Int.reduceNeg,Int.reduceLT,Int.reduceLE,Int.reduceEq,Nat.reduceEqDiff,Nat.reduceAdd,Nat.reduceLeDiff,reduceIte,reduceCtorEq,Nat.reduceBEq,i64,iD,bD]
 have hXl:(⟨0,true,8,[chC 1 ((re.atR p).1.cells.map V.d) re p]⟩::chO ((re.atR p).1.cells.map V.d) 1 re p:List VL.Obj).length=5:=by rw[List.length_cons,hlc2]; first | omega | rfl
 have hXo:(⟨0,true,8,[chC 1 ((re.atR p).1.cells.map V.d) re p]⟩::chO ((re.atR p).1.cells.map V.d) 1 re p:List VL.Obj).all (objOk 5)=true:=by
  rw[List.all_cons,hob,Bool.and_true]
  simp only[objOk,List.all_cons,List.all_nil,Bool.and_true]
  exact hcf
 have hXr:(⟨0,true,8,[chC 1 ((re.atR p).1.cells.map V.d) re p]⟩::chO ((re.atR p).1.cells.map V.d) 1 re p:List VL.Obj).map (renO [7,3,4,5,6])=[⟨0,true,8,[chK re (.so 3 (re.kids.length + 1) 0 re.kids.length)]⟩,b0,b1,b2,⟨g,true,8,els.set h ((re.atR p).1.cells.map V.d)⟩]:=by
  rw[List.map_cons,hor2,hch,renO]; simp only[List.map_cons,List.map_nil,hcr2]; rfl
 generalize (⟨0,true,8,[chC 1 ((re.atR p).1.cells.map V.d) re p]⟩::chO ((re.atR p).1.cells.map V.d) 1 re p:List VL.Obj)=X at hfc hXl hXo hXr
 refine draw_c mix [5] [(1,[7,3,4,5,6],[7,3,4,5,6]),(4,[7,3,4,5,6],[])] (by rfl) ?_
 simp only[zX,Nat.reduceShiftRight,Nat.reduceMod,Nat.reduceLT,Nat.reduceMul,Nat.reduceSub,Int.reduceToNat,Int.reduceNeg,Int.reduceLT,Int.reduceLE,Int.reduceEq,Nat.reduceEqDiff,Nat.reduceAdd,Nat.reduceLeDiff,reduceIte,reduceCtorEq,Nat.reduceBEq,i64,iD,bD]
 refine callF_map [7,3,4,5,6] hfc (by decide) rfl (by rw[show X.map (fun o=>some (renO [7,3,4,5,6] o))=(X.map (renO [7,3,4,5,6])).map some by rw[List.map_map]; rfl,hXr]; rfl) rfl (by simp [refsV.go,refsV,hXl]) (by rw[hXl]; exact hXo) (show renV [7,3,4,5,6] _=.rf 6 g h 0 by rw[her,hend]; rfl) ?_
 rw[hXr]
 simp only[putObjs,List.set_cons_succ,List.set_cons_zero]
 simp only[zX,Nat.reduceShiftRight,Nat.reduceMod,Nat.reduceLT,Nat.reduceMul,Nat.reduceSub,Int.reduceToNat,Int.reduceNeg,Int.reduceLT,Int.reduceLE,Int.reduceEq,Nat.reduceEqDiff,Nat.reduceAdd,Nat.reduceLeDiff,reduceIte,reduceCtorEq,Nat.reduceBEq,i64,iD,bD]
 refine callC_pure hcx (by simp [refsV,refsV.go]) (by simp [refsV,refsV.go]) ?_
 have hget:(els.set h ((re.atR p).1.cells.map V.d))[h]?=some ((re.atR p).1.cells.map V.d):=List.getElem?_set_self hh
 have hC8:((re.atR p).1.cells.map V.d).length=8:=by simp [Re.cells_len]
 generalize (re.atR p).1.cells.map V.d=C at *
 simp only[zX,Nat.reduceShiftRight,Nat.reduceMod,Nat.reduceLT,Nat.reduceMul,Nat.reduceSub,Int.reduceToNat,Int.reduceNeg,Int.reduceLT,Int.reduceLE,Int.reduceEq,Nat.reduceEqDiff,Nat.reduceAdd,Nat.reduceLeDiff,reduceIte,reduceCtorEq,Nat.reduceBEq,i64,iD,bD,hget,hC8]
 have hlast:(els.set h C).set h (V.d (D.sc (Value.int IntKind.i64 x.op))::V.d (D.sl (List.map spanC x.set))::V.d (D.sl (List.map Re.cells x.kids))::V.d (D.sc (Value.int IntKind.i64 x.mn))::V.d (D.sc (Value.int IntKind.i64 x.mx))::V.d (D.sc (Value.int IntKind.i64 x.mode))::V.d (D.sc (Value.int IntKind.i64 x.n))::V.d (D.sc (Value.bool x.neg))::List.drop 8 C)=els.set h (x.cells.map V.d):=by
  rw[List.set_set,List.drop_of_length_le (by omega),Re.cells_eq x]; rfl
 rw[hlast]
 have hgo:∀s:List VL.Obj,(∀t o,(chO (x.cells.map V.d) 3 re p)[t]?=some o→s[3 + t]?=some o)→frzV.go 0 s (chC 3 (x.cells.map V.d) re p)=some ((re.putR p x).1.cells.map V.d):=fun s hs=>ch_frzV ho (by omega) hs
 rw[hcK,hch] at hgo
 refine⟨by simp [chK],by simp [chK],by simp [chK],?_⟩
 simp only[chK,List.take_succ_cons,List.take_zero,List.length_cons,List.length_nil,Nat.zero_add,Nat.reduceAdd,List.drop_succ_cons,List.drop_zero,List.drop_nil,List.cons_append,List.nil_append] at hgo ⊢
 rw[hgo]
 ·rfl
 ·exact fun t o ht=>get3 (r:=[_]) ht
theorem put_ok5 (re x:Re) (p:List Int) (hp:p.length=5) (hf:re.fine=true) (hx:x.fine=true) (ho:okP re p):PutOK re x p:=by
 have hfi:=find_ok p re hf (by first | omega | simp)
 rw[findV_ok ho,Re.cells_eq re] at hfi
 have hcx:=clone_ok x hx
 have hcl:=clone_ch5 re hf p hp ho
 have hfc:=find_ch (re.atR p).1.cells p re hf (by first | omega | simp) ho
 have hpo:=putR_ok x p re ho
 unfold PutOK
 rw[hpo]
 rw[reV_eq x] at hcx
 unfold CloneCh at hcl
 rw[reV_eq re] at hcl
 have hcr:=chC_ren (ρ:=[3,4,5,6,7]) (b:=0) (b':=3) (re.atR p).1.cells re p (fun hne=>by first | rfl | exact(hne rfl).elim)
 have hcr2:=chC_ren (ρ:=[8,3,4,5,6,7]) (b:=1) (b':=3) (re.atR p).1.cells re p (fun hne=>by first | rfl | exact(hne rfl).elim)
 have hor:=chO_ren (ρ:=[3,4,5,6,7]) (re.atR p).1.cells p 0 3 re (fun j h1 h2=>by first | (exfalso; omega) | (exfalso; simp at h2; done) | (rcases(show j=1∨j=2∨j=3∨j=4 by omega) with rfl | rfl | rfl | rfl <;> rfl))
 have hor2:=chO_ren (ρ:=[8,3,4,5,6,7]) (re.atR p).1.cells p 1 3 re (fun j h1 h2=>by first | (exfalso; omega) | (exfalso; simp at h2; done) | (rcases(show j=1∨j=2∨j=3∨j=4 by omega) with rfl | rfl | rfl | rfl <;> rfl))
 have her:=endR_ren (ρ:=[8,3,4,5,6,7]) p (.rf 0 0 0 0) 1 3 re (fun j h2=>by first | (exfalso; omega) | (exfalso; simp at h2; done) | (rcases(show j=0∨j=1∨j=2∨j=3∨j=4 by omega) with rfl | rfl | rfl | rfl | rfl <;> rfl))
 have hlc:=chO_len ((re.atR p).1.cells.map V.d) p 0 re ho
 have hlc2:=chO_len ((re.atR p).1.cells.map V.d) p 1 re ho
 have hob:=chO_obj 6 (re.atR p).1.cells p 1 re (by first | omega | simp)
 have hcf:=chC_refs 6 1 (re.atR p).1.cells re p (fun hne=>by first | omega | exact(hne rfl).elim)
 have hso:∀s:List VL.Obj,(∀t o,(chO (x.cells.map V.d) 3 re p)[t]?=some o→s[3 + t]?=some o)→frzD 8 0 s (.so 3 (re.kids.length + 1) 0 re.kids.length)=some (.sl ((re.putR p x).1.kids.map Re.cells)):=by
  intro s hs
  obtain⟨a,q,rfl⟩:∃a q,p=a::q:=by
   cases p with
   | nil=>simp at hp
   | cons a q=>exact⟨a,q,rfl⟩
  exact ch_so (n:=7) ho (by simp only[List.length_cons] at hp; omega) (Nat.zero_le _) hs
 have hpc:(re.putR p x).1=re.setKids (re.putR p x).1.kids:=by
  obtain⟨a,q,rfl⟩:∃a q,p=a::q:=by
   cases p with
   | nil=>simp at hp
   | cons a q=>exact⟨a,q,rfl⟩
  obtain⟨h0,k,hk,hok⟩:=okP_cons.1 ho
  rw[putR_set x h0 hk hok,Re.setKids_kids]
 obtain⟨pre,g,h,els,hpl,hh,hend,hch⟩:=chO_last p 3 re ho (by rintro rfl; simp at hp)
 obtain⟨b0,b1,b2,b3,rfl⟩:∃b0 b1 b2 b3:VL.Obj,pre=[b0,b1,b2,b3]:=by
  have:pre.length=4:=by omega
  match pre,this with
  | [_,_,_,_],_=>exact⟨_,_,_,_,rfl⟩
 have hcK:∀c,chC 3 c re p=chK re (.so 3 (re.kids.length + 1) 0 re.kids.length):=by
  intro c
  cases p with
  | nil=>simp at hp
  | cons a q=>rfl
 refine fn_ok func15 rfl ntmps15 results15 rfl 0 495 (by simp) (by simp) ?_
 simp only[zX,Nat.reduceShiftRight,Nat.reduceMod,Nat.reduceLT,Nat.reduceMul,Nat.reduceSub,Int.reduceToNat,Int.reduceNeg,Int.reduceLT,Int.reduceLE,Int.reduceEq,Nat.reduceEqDiff,Nat.reduceAdd,Nat.reduceLeDiff,reduceIte,reduceCtorEq,Nat.reduceBEq,i64,reV_eq re,reV_eq x,iD,bD]
 refine call_give [0] rfl ?_
 refine call_pure hfi rfl rfl ?_
 simp only[zX,Nat.reduceShiftRight,Nat.reduceMod,Nat.reduceLT,Nat.reduceMul,Nat.reduceSub,Int.reduceToNat,Int.reduceNeg,Int.reduceLT,Int.reduceLE,Int.reduceEq,Nat.reduceEqDiff,Nat.reduceAdd,Nat.reduceLeDiff,reduceIte,reduceCtorEq,Nat.reduceBEq,i64,iD,bD,killO,kill1,List.set_cons_zero,List.set_cons_succ]
 refine⟨⟨_,rfl⟩,?_⟩
 refine call_room 8 ?_
 refine call_room 8 ?_
 refine call_room 8 ?_
 refine call_room 8 ?_
 refine call_room 8 ?_
 refine call_map [3,4,5,6,7] hcl (by decide) (by rw[hlc]; first | exact hp | rfl) rfl rfl (by simp [refsV,refsV.go]) rfl (congrArg V.ag hcr) ?_
 rw[hor]
 rw[hcK,hch]
 rw[hcK] at hcr2
 simp only[putObjs,List.set_cons_succ,List.set_cons_zero,List.cons_append,List.nil_append,chK]
 simp only[zX,Nat.reduceShiftRight,Nat.reduceMod,Nat.reduceLT,Nat.reduceMul,Nat.reduceSub,Int.reduceToNat,Int.reduceNeg,Int.reduceLT,Int.reduceLE,Int.reduceEq,Nat.reduceEqDiff,Nat.reduceAdd,Nat.reduceLeDiff,reduceIte,reduceCtorEq,Nat.reduceBEq,i64,iD,bD]
 have hXl:(⟨0,true,8,[chC 1 ((re.atR p).1.cells.map V.d) re p]⟩::chO ((re.atR p).1.cells.map V.d) 1 re p:List VL.Obj).length=6:=by rw[List.length_cons,hlc2]; first | omega | rfl
 have hXo:(⟨0,true,8,[chC 1 ((re.atR p).1.cells.map V.d) re p]⟩::chO ((re.atR p).1.cells.map V.d) 1 re p:List VL.Obj).all (objOk 6)=true:=by
  rw[List.all_cons,hob,Bool.and_true]
  simp only[objOk,List.all_cons,List.all_nil,Bool.and_true]
  exact hcf
 have hXr:(⟨0,true,8,[chC 1 ((re.atR p).1.cells.map V.d) re p]⟩::chO ((re.atR p).1.cells.map V.d) 1 re p:List VL.Obj).map (renO [8,3,4,5,6,7])=[⟨0,true,8,[chK re (.so 3 (re.kids.length + 1) 0 re.kids.length)]⟩,b0,b1,b2,b3,⟨g,true,8,els.set h ((re.atR p).1.cells.map V.d)⟩]:=by
  rw[List.map_cons,hor2,hch,renO]; simp only[List.map_cons,List.map_nil,hcr2]; rfl
 generalize (⟨0,true,8,[chC 1 ((re.atR p).1.cells.map V.d) re p]⟩::chO ((re.atR p).1.cells.map V.d) 1 re p:List VL.Obj)=X at hfc hXl hXo hXr
 refine draw_c mix [5] [(1,[8,3,4,5,6,7],[8,3,4,5,6,7]),(4,[8,3,4,5,6,7],[])] (by rfl) ?_
 simp only[zX,Nat.reduceShiftRight,Nat.reduceMod,Nat.reduceLT,Nat.reduceMul,Nat.reduceSub,Int.reduceToNat,Int.reduceNeg,Int.reduceLT,Int.reduceLE,Int.reduceEq,Nat.reduceEqDiff,Nat.reduceAdd,Nat.reduceLeDiff,reduceIte,reduceCtorEq,Nat.reduceBEq,i64,iD,bD]
 refine callF_map [8,3,4,5,6,7] hfc (by decide) rfl (by rw[show X.map (fun o=>some (renO [8,3,4,5,6,7] o))=(X.map (renO [8,3,4,5,6,7])).map some by rw[List.map_map]; rfl,hXr]; rfl) rfl (by simp [refsV.go,refsV,hXl]) (by rw[hXl]; exact hXo) (show renV [8,3,4,5,6,7] _=.rf 7 g h 0 by rw[her,hend]; rfl) ?_
 rw[hXr]
 simp only[putObjs,List.set_cons_succ,List.set_cons_zero]
 simp only[zX,Nat.reduceShiftRight,Nat.reduceMod,Nat.reduceLT,Nat.reduceMul,Nat.reduceSub,Int.reduceToNat,Int.reduceNeg,Int.reduceLT,Int.reduceLE,Int.reduceEq,Nat.reduceEqDiff,Nat.reduceAdd,Nat.reduceLeDiff,reduceIte,reduceCtorEq,Nat.reduceBEq,i64,iD,bD]
 refine callC_pure hcx (by simp [refsV,refsV.go]) (by simp [refsV,refsV.go]) ?_
 have hget:(els.set h ((re.atR p).1.cells.map V.d))[h]?=some ((re.atR p).1.cells.map V.d):=List.getElem?_set_self hh
 have hC8:((re.atR p).1.cells.map V.d).length=8:=by simp [Re.cells_len]
 generalize (re.atR p).1.cells.map V.d=C at *
 simp only[zX,Nat.reduceShiftRight,Nat.reduceMod,Nat.reduceLT,Nat.reduceMul,Nat.reduceSub,Int.reduceToNat,Int.reduceNeg,Int.reduceLT,Int.reduceLE,Int.reduceEq,Nat.reduceEqDiff,Nat.reduceAdd,Nat.reduceLeDiff,reduceIte,reduceCtorEq,Nat.reduceBEq,i64,iD,bD,hget,hC8]
 have hlast:(els.set h C).set h (V.d (D.sc (Value.int IntKind.i64 x.op))::V.d (D.sl (List.map spanC x.set))::V.d (D.sl (List.map Re.cells x.kids))::V.d (D.sc (Value.int IntKind.i64 x.mn))::V.d (D.sc (Value.int IntKind.i64 x.mx))::V.d (D.sc (Value.int IntKind.i64 x.mode))::V.d (D.sc (Value.int IntKind.i64 x.n))::V.d (D.sc (Value.bool x.neg))::List.drop 8 C)=els.set h (x.cells.map V.d):=by
  rw[List.set_set,List.drop_of_length_le (by omega),Re.cells_eq x]; rfl
 rw[hlast]
 have hgo:∀s:List VL.Obj,(∀t o,(chO (x.cells.map V.d) 3 re p)[t]?=some o→s[3 + t]?=some o)→frzV.go 0 s (chC 3 (x.cells.map V.d) re p)=some ((re.putR p x).1.cells.map V.d):=fun s hs=>ch_frzV ho (by omega) hs
 rw[hcK,hch] at hgo
 refine⟨by simp [chK],by simp [chK],by simp [chK],?_⟩
 simp only[chK,List.take_succ_cons,List.take_zero,List.length_cons,List.length_nil,Nat.zero_add,Nat.reduceAdd,List.drop_succ_cons,List.drop_zero,List.drop_nil,List.cons_append,List.nil_append] at hgo ⊢
 rw[hgo]
 ·rfl
 ·exact fun t o ht=>get3 (r:=[_]) ht
end Go.Proofs.Ytffeafbdcakfbaa
