/- A part of the proof (F116 F117 F118). -/
import Derived.Test.YtffeafbdcakfbaaAP6
import Derived.Test.YtffeafbdcakfbaaAP3
import Derived.Test.YtffeafbdcakfbaaAP5
import Derived.Test.YtffeafbdcakfbaaAP20
set_option linter.unusedSimpArgs false
set_option linter.unusedVariables false
set_option maxRecDepth 100000
set_option maxHeartbeats 80000000
set_option linter.unusedSimpArgs false
set_option linter.unusedVariables false
namespace Go.Proofs.Ytffeafbdcakfbaa
open Go.VL Go.Proofs.Try
def ins1 (g:Nat) (L:List Int):VL.Obj:=⟨g,true,1,L.map fun x=>[i64 x]⟩
theorem frz_ints (n lim:Nat) (s:List VL.Obj) (L:List Int):(L.map fun x=>[i64 x]).mapM (fun (e:List V)=>e.mapM (frzD n lim s))=some (L.map fun x=>[iD x]):=by
 have:=mapM_frzE n lim s (L.map fun x=>[iD x])
 rw[List.map_map] at this
 exact this
theorem cloneInts_own (g:Nat) (L:List Int) (hl:L.length≤1000000000):callWp prog 36 [.so 0 g 0 L.length] [ins1 g L] fun v s=>v=.d (intsD L)∧s=[ins1 g L]:=by
 unfold ins1
 refine fn_ok func36 rfl ntmps36 results36 rfl 1 5 (by simp) (by simp) ?_
 cases L with
 | nil =>
  simp only[zW,Nat.reduceShiftRight,Nat.reduceMod,Nat.reduceLT,Nat.reduceMul,Nat.reduceSub,Int.reduceToNat,Int.reduceNeg,Int.reduceLT,Int.reduceLE,Int.reduceEq,Nat.reduceEqDiff,Nat.reduceAdd,Nat.reduceLeDiff,reduceIte,reduceCtorEq,Nat.reduceBEq,i64,iD,bD,List.length_nil,List.map_nil]
  exact⟨⟨_,rfl⟩,rfl,by simp,by simp,rfl⟩
 | cons x l =>
  simp only[zW,Nat.reduceShiftRight,Nat.reduceMod,Nat.reduceLT,Nat.reduceMul,Nat.reduceSub,Int.reduceToNat,Int.reduceNeg,Int.reduceLT,Int.reduceLE,Int.reduceEq,Nat.reduceEqDiff,Nat.reduceAdd,Nat.reduceLeDiff,reduceIte,reduceCtorEq,Nat.reduceBEq,i64,iD,bD,List.length_cons,List.map_cons]
  refine⟨⟨_,rfl⟩,?_⟩
  rw[if_pos (by omega),List.take_of_length_le (by simp)]
  simp only
  have he:([V.d (D.sc (Value.int IntKind.i64 x))]::l.map fun x=>[V.d (D.sc (Value.int IntKind.i64 x))])=(x::l).map fun x=>[i64 x]:=rfl
  rw[he]
  simp only[List.length_cons] at hl
  refine⟨by intro e hm; obtain⟨y,_,rfl⟩:=List.mem_map.1 hm; rfl,⟨by simp; omega,by simp⟩,?_,?_⟩
  ·rw[List.all_eq_true]
   intro e he
   obtain⟨y,_,rfl⟩:=List.mem_map.1 he
   rfl
  ·simp only[Nat.zero_add,List.drop_zero,Nat.le_refl,if_true,List.take_length,frz_ints,Option.map_some]
   first | done | exact⟨rfl,rfl⟩ | rfl
def pthS (f:FuncId) (acc:List (List Int)) (g:Nat) (L:List Int):List VL.Obj :=
 [⟨0,true,1,[[.so 2 acc.length 0 acc.length]]⟩,⟨0,true,1,[[.cl (.func f) [] [.rf 0 0 0 0,.rf 1 0 0 0]]]⟩,⟨acc.length,true,1,acc.map fun p=>[.d (intsD p)]⟩,ins1 g L]
def PathsOK (re:Re):Prop:=∀(acc:List (List Int)) (g:Nat) (L:List Int),acc.length + re.size≤1000000→L.length + re.size≤1000000 →
 callWp prog 35 [.d (.el re.cells),.so 3 g 0 L.length,.rf 0 0 0 0,.rf 1 0 0 0] (pthS 35 acc g L) fun v s=>v=.tu []∧s=pthS 35 (acc++re.paths.map fun p=>L++p) g L
theorem ins1_ren (ρ:List Nat) (g:Nat) (L:List Int):renO ρ (ins1 g L)=ins1 g L:=by
 unfold renO ins1
 simp only[VL.Obj.mk.injEq,true_and,List.map_map]
 exact List.map_congr_left fun x _=>rfl
theorem ins1_ok (lim g:Nat) (L:List Int):objOk lim (ins1 g L)=true:=by
 unfold objOk ins1
 rw[List.all_eq_true]
 intro e he
 obtain⟨x,_,rfl⟩:=List.mem_map.1 he
 rfl
theorem arr_ren (ρ:List Nat) (g:Nat) (A:List (List Int)):renO ρ ⟨g,true,1,A.map fun p=>[.d (intsD p)]⟩=⟨g,true,1,A.map fun p=>[.d (intsD p)]⟩:=by
 unfold renO
 simp only[VL.Obj.mk.injEq,true_and,List.map_map]
 exact List.map_congr_left fun x _=>rfl
theorem arr_ok (lim g:Nat) (A:List (List Int)):objOk lim ⟨g,true,1,A.map fun p=>[.d (intsD p)]⟩=true:=by
 unfold objOk
 rw[List.all_eq_true]
 intro e he
 obtain⟨x,_,rfl⟩:=List.mem_map.1 he
 rfl
theorem ins1_take (g:Nat) (L:List Int) (i:Int):({ ins1 g (L++[i]) with els:=(ins1 g (L++[i])).els.take L.length }:VL.Obj)=ins1 g L:=by
 unfold ins1
 simp only[VL.Obj.mk.injEq,true_and]
 rw[← List.map_take,List.take_left]
theorem ins1_nm (g:Nat) (L:List Int):∀es,(ins1 g L).els≠mapEls es∨L=[]:=by
 intro es
 cases L with
 | nil=>exact .inr rfl
 | cons x l =>
  refine .inl fun h=>?_
  have hm:[i64 x]∈mapEls es:=by rw[← h]; simp [ins1]
  unfold mapEls at hm
  obtain⟨y,_,hy⟩:=List.mem_map.1 hm
  simp at hy
theorem paths_rec (re:Re) (hs:re.fine=true):PathsOK re:=by
 revert hs
 refine Re.ind (Q:=fun re=>re.fine=true→PathsOK re) (fun re ih hs=>?_) re
 intro acc g L ha hL
 obtain⟨hset1,hlen,hfk⟩:=Re.fine_spec hs
 have hsz:=Re.size_eq re
 have hcl:=cloneInts_own g L (by omega)
 unfold pthS
 refine fn_ok func35 rfl ntmps35 results35 rfl 4 196687 (by simp) (by simp) ?_
 simp only[zX,Nat.reduceShiftRight,Nat.reduceMod,Nat.reduceLT,Nat.reduceMul,Nat.reduceSub,Int.reduceToNat,Int.reduceNeg,Int.reduceLT,Int.reduceLE,Int.reduceEq,Nat.reduceEqDiff,Nat.reduceAdd,Nat.reduceLeDiff,reduceIte,reduceCtorEq,Nat.reduceBEq,i64,iD,bD]
 refine draw_c mix [4,5] [(2,[3],[3])] (by rfl) ?_
 simp only[zX,Nat.reduceShiftRight,Nat.reduceMod,Nat.reduceLT,Nat.reduceMul,Nat.reduceSub,Int.reduceToNat,Int.reduceNeg,Int.reduceLT,Int.reduceLE,Int.reduceEq,Nat.reduceEqDiff,Nat.reduceAdd,Nat.reduceLeDiff,reduceIte,reduceCtorEq,Nat.reduceBEq,i64,iD,bD]
 refine callF_map [3] hcl (by decide) rfl (by simp [ins1_ren]) rfl rfl (by simp [ins1_ok]) (show renV [3] (.d (intsD L))=.d (intsD L) from rfl) ?_
 simp only[List.map_cons,List.map_nil,ins1_ren,putObjs,List.set_cons_succ,List.set_cons_zero]
 simp only[zX,Nat.reduceShiftRight,Nat.reduceMod,Nat.reduceLT,Nat.reduceMul,Nat.reduceSub,Int.reduceToNat,Int.reduceNeg,Int.reduceLT,Int.reduceLE,Int.reduceEq,Nat.reduceEqDiff,Nat.reduceAdd,Nat.reduceLeDiff,reduceIte,reduceCtorEq,Nat.reduceBEq,i64,iD,bD,Re.cells_eq re,List.length_map]
 refine⟨by simp,⟨by omega,by omega⟩,?_⟩
 refine loop_rule (fun n e s=>∃i:Nat,n=re.kids.length - i∧i≤re.kids.length∧e 0=.d (.el re.cells)∧e 1=.so 3 g 0 L.length∧e 2=.rf 0 0 0 0∧e 3=.rf 1 0 0 0∧e 16=i64 re.kids.length∧e 17=i64 i∧s=pthS 35 (acc++[L]++(Re.pathsL (re.kids.take i) 0).map fun p=>L++p) g L)
  ⟨_,_,_,Cln.refl,0,rfl,by omega,?_,rfl,rfl,rfl,rfl,rfl,?_⟩ ?_ <;> (try simp only[zU,Nat.reduceBEq,Nat.reduceShiftRight,Nat.reduceMod,Nat.reduceEqDiff,reduceIte])
 ·rw[Re.cells_eq re]; rfl
 ·simp only[List.take_zero,Re.pathsL,List.map_nil,List.append_nil]
  rw[List.take_of_length_le (by simp)]
  unfold pthS
  simp only[List.length_append,List.length_cons,List.length_nil,Nat.zero_add,List.map_append,List.map_cons,List.map_nil]
 rintro n e s ⟨i,rfl,hi,h0,h1,h2,h3,h16,h17,rfl⟩
 rcases Nat.lt_or_ge i re.kids.length with hlt | hge
 ·obtain⟨k,hk⟩:∃k,re.kids[i]?=some k:=⟨_,List.getElem?_eq_getElem hlt⟩
  have hm:=List.mem_of_getElem? hk
  generalize hA:acc++[L]++(Re.pathsL (re.kids.take i) 0).map (fun p=>L++p)=A at *
  unfold pthS
  simp only[zX,Nat.reduceShiftRight,Nat.reduceMod,Nat.reduceLT,Nat.reduceMul,Nat.reduceSub,Int.reduceToNat,Int.reduceNeg,Int.reduceLT,Int.reduceLE,Int.reduceEq,Nat.reduceEqDiff,Nat.reduceAdd,Nat.reduceLeDiff,reduceIte,reduceCtorEq,Nat.reduceBEq,i64,iD,bD,h0,h1,h2,h3,h16,h17,hlt]
  have hsk:=Re.size_kid hm
  have hAl:A.length + k.size≤1000000:=by
   rw[← hA]
   have htl:=Re.sizeL_take re.kids (i + 1)
   rw[take_get hk,Re.sizeL_append] at htl
   simp only[Re.sizeL] at htl
   simp only[List.length_append,List.length_cons,List.length_nil,List.length_map,Re.pathsL_len]
   omega
  have e1:(L++[(i:Int)]).length=L.length + 1:=by simp
  have hrecA:=ih k hm (hfk k hm) A g (L++[(i:Int)]) hAl (by omega)
  have hrecB:=ih k hm (hfk k hm) A 1 (L++[(i:Int)]) hAl (by omega)
  have hpm:(k.paths.map fun p=>L++[(i:Int)]++p)=(k.paths.map fun p=>(i:Int)::p).map fun p=>L++p:=by
   rw[List.map_map]; exact List.map_congr_left fun p _=>by simp
  rw[e1,hpm] at hrecA hrecB
  have hnext:acc++[L]++(Re.pathsL (re.kids.take (i + 1)) 0).map (fun p=>L++p)=A++(k.paths.map fun p=>(i:Int)::p).map fun p=>L++p:=by
   rw[← hA,take_get hk,Re.pathsL_snoc]
   simp [Nat.min_eq_left hi]
  rw[← hnext] at hrecA hrecB
  generalize hB:acc++[L]++(Re.pathsL (re.kids.take (i + 1)) 0).map (fun p=>L++p)=B at *
  unfold pthS at hrecA hrecB
  have hIA:(⟨g,true,1,List.take (0 + L.length) (List.map (fun x=>[V.d (D.sc (Value.int IntKind.i64 x))]) L)++[[V.d (D.sc (Value.int IntKind.i64 (i:Int)))]]++List.drop (0 + L.length + 1) (List.map (fun x=>[V.d (D.sc (Value.int IntKind.i64 x))]) L)⟩:VL.Obj)=ins1 g (L++[(i:Int)]):=by
   rw[List.take_of_length_le (by simp),List.drop_of_length_le (by simp)]
   simp [ins1,i64]
  have hIB:(⟨1,true,1,List.take L.length (List.map (fun x=>[V.d (D.sc (Value.int IntKind.i64 x))]) L)++[[V.d (D.sc (Value.int IntKind.i64 (i:Int)))]]⟩:VL.Obj)=ins1 1 (L++[(i:Int)]):=by
   rw[List.take_of_length_le (by simp)]
   simp [ins1,i64]
  refine draw_cap (id:=3) (g:=g) (lo:=0) (n:=L.length) 1 (by simp [updE,trimE_app,h1]) (fun hi'=>?_) ?_
  ·refine draw_c mix [] [(0,[1],[]),(10,[3],[3,3]),(11,[0,1,2,3],[0,1,2,3])] (by rfl) ?_
   simp only[zX,Nat.reduceShiftRight,Nat.reduceMod,Nat.reduceLT,Nat.reduceMul,Nat.reduceSub,Int.reduceToNat,Int.reduceNeg,Int.reduceLT,Int.reduceLE,Int.reduceEq,Nat.reduceEqDiff,Nat.reduceAdd,Nat.reduceLeDiff,reduceIte,reduceCtorEq,Nat.reduceBEq,i64,iD,bD,h0,h1,h2,h3,h16,h17,hlt,hk,Re.cells_eq re,ins1,List.length_map]
   refine⟨⟨fun e he=>by rw[List.mem_singleton.1 he]; rfl,by omega,Nat.le_refl _⟩,?_⟩
   rw[hIA]
   refine callF_whole hrecA (by intro j hj; simp only[List.length_cons,List.length_nil] at hj; simp only[List.mem_cons,List.not_mem_nil,or_false]; omega) rfl rfl ?_
   simp only[zX,Nat.reduceShiftRight,Nat.reduceMod,Nat.reduceLT,Nat.reduceMul,Nat.reduceSub,Int.reduceToNat,Int.reduceNeg,Int.reduceLT,Int.reduceLE,Int.reduceEq,Nat.reduceEqDiff,Nat.reduceAdd,Nat.reduceLeDiff,reduceIte,reduceCtorEq,Nat.reduceBEq,i64,iD,bD,h0,h1,h2,h3,h16,h17]
   refine⟨re.kids.length - (i + 1),_,_,by omega,(Cln.uncap (lo:=L.length + 1) (hi:=hi') (v:=.so 3 g 0 L.length) 1 (by simp [updE])).trans (Cln.trunc (o:=ins1 g (L++[(i:Int)])) 3 L.length rfl (fun es=>(ins1_nm g _ es).resolve_right (by simp))),i + 1,rfl,hlt,?_,?_,?_,?_,?_,?_,?_⟩ <;> (try simp only[zU,Nat.reduceBEq,Nat.reduceShiftRight,Nat.reduceMod,Nat.reduceEqDiff,reduceIte])
   ·rw[h0,Re.cells_eq re]; rfl
   ·exact h2
   ·exact h3
   ·exact h16
   ·rw[w64 _ (by omega)]; rfl
   ·rw[ins1_take,hB]; rfl
  ·refine draw_first Cln0.reserve ?_
   refine draw_c mix [] [(0,[1],[]),(10,[3,4],[4,4,4]),(11,[0,1,2,4],[0,1,2,4])] (by rfl) ?_
   simp only[zX,Nat.reduceShiftRight,Nat.reduceMod,Nat.reduceLT,Nat.reduceMul,Nat.reduceSub,Int.reduceToNat,Int.reduceNeg,Int.reduceLT,Int.reduceLE,Int.reduceEq,Nat.reduceEqDiff,Nat.reduceAdd,Nat.reduceLeDiff,reduceIte,reduceCtorEq,Nat.reduceBEq,i64,iD,bD,h0,h1,h2,h3,h16,h17,hlt,hk,Re.cells_eq re,ins1,List.length_map]
   refine⟨⟨fun e he=>by rw[List.mem_singleton.1 he]; rfl,by omega,by omega,by omega,fun e he x hx=>by obtain⟨y,_,rfl⟩:=List.mem_map.1 he; rw[List.mem_singleton.1 hx]; rfl⟩,?_⟩
   rw[hIB]
   refine callF_map [0,1,2,4] hrecB (by decide) rfl (by simp only[List.map_cons,List.map_nil,ins1_ren,arr_ren]; rfl) rfl rfl (by simp only[List.all_cons,List.all_nil,ins1_ok,arr_ok,Bool.and_true]; rfl) rfl ?_
   simp only[List.map_cons,List.map_nil,ins1_ren,arr_ren,putObjs,List.set_cons_succ,List.set_cons_zero]
   simp only[zX,Nat.reduceShiftRight,Nat.reduceMod,Nat.reduceLT,Nat.reduceMul,Nat.reduceSub,Int.reduceToNat,Int.reduceNeg,Int.reduceLT,Int.reduceLE,Int.reduceEq,Nat.reduceEqDiff,Nat.reduceAdd,Nat.reduceLeDiff,reduceIte,reduceCtorEq,Nat.reduceBEq,i64,iD,bD,h0,h1,h2,h3,h16,h17]
   refine⟨re.kids.length - (i + 1),_,_,by omega,(Cln.uncap (lo:=0) (hi:=L.length) (v:=.so 3 g 0 L.length) 1 (by simp [updE])).trans (Cln.cut 4 (Nat.le_refl _) rfl ?_ [0,1,2,3,16,17] ?_),i + 1,rfl,hlt,?_,?_,?_,?_,?_,?_,?_⟩ <;> (try simp only[zU,Nat.reduceBEq,Nat.reduceShiftRight,Nat.reduceMod,Nat.reduceEqDiff,reduceIte])
   ·simp only[List.take_succ_cons,List.take_zero,List.all_cons,List.all_nil,Bool.and_true,Bool.and_eq_true]
    exact⟨rfl,rfl,arr_ok 4 _ _,ins1_ok 4 g L⟩
   ·simp [updE,trimE_app,refsV,h0,h2,h3,h16,i64]
   ·rw[h0,Re.cells_eq re]; rfl
   ·exact h2
   ·exact h3
   ·exact h16
   ·rw[w64 _ (by omega)]; rfl
   ·rw[hB]; rfl
 ·have hie:i=re.kids.length:=by omega
  subst hie
  unfold pthS
  have hP:acc++[L]++(Re.pathsL re.kids 0).map (fun p=>L++p)=acc++re.paths.map fun p=>L++p:=by rw[Re.paths_eq]; simp
  rw[List.take_length,hP]
  simp only[zX,Nat.reduceShiftRight,Nat.reduceMod,Nat.reduceLT,Nat.reduceMul,Nat.reduceSub,Int.reduceToNat,Int.reduceNeg,Int.reduceLT,Int.reduceLE,Int.reduceEq,Nat.reduceEqDiff,Nat.reduceAdd,Nat.reduceLeDiff,reduceIte,reduceCtorEq,Nat.reduceBEq,i64,iD,bD,h0,h1,h2,h3,h16,h17,Nat.lt_irrefl]
  (simp only[Bool.and_eq_true]; exact⟨arr_ok 4 0 _,ins1_ok 4 g L⟩)
theorem astPaths_ok (re:Re) (hs:re.fine=true) (hz:re.size≤900000):PureOK prog 9 [reV re] (.d (pathsD re.paths)):=by
 have hrec:=paths_rec re hs [] 0 [] (by simpa using (show re.size≤1000000 by omega)) (by simpa using (show re.size≤1000000 by omega))
 have hnil:(re.paths.map fun p=>[]++p)=re.paths:=by simp
 rw[List.nil_append,hnil] at hrec
 unfold pthS at hrec
 rw[Re.cells_eq re] at hrec
 simp only[iD,bD,List.length_nil,List.map_nil] at hrec
 generalize re.paths=ps at *
 refine fn_ok func9 rfl ntmps9 results9 rfl 0 31 (by simp) (by simp) ?_
 simp only[zX,Nat.reduceShiftRight,Nat.reduceMod,Nat.reduceLT,Nat.reduceMul,Nat.reduceSub,Int.reduceToNat,Int.reduceNeg,Int.reduceLT,Int.reduceLE,Int.reduceEq,Nat.reduceEqDiff,Nat.reduceAdd,Nat.reduceLeDiff,reduceIte,reduceCtorEq,Nat.reduceBEq,i64,reV_eq re,iD,bD]
 refine call_resArg (pre:=[.rf 0 0 0 0]) (post:=[.rf 1 0 0 0,.rf 2 0 0 0]) 1 (.inl rfl) ?_
 refine call_reserve (pre:=[]) (post:=[]) 1 1 rfl rfl rfl ?_
 refine call_give [0] rfl ?_
 refine call_map [1,2,4,3] hrec (by decide) rfl ?_ rfl (by simp [refsV,refsV.go]) ?_ rfl ?_
 ·simp [killO,kill1,renO,renV,renV.go,ins1]
 ·simp [objOk,refsV,refsV.go,ins1]
 simp only[List.map_cons,List.map_nil,arr_ren,ins1_ren,putObjs,killO,kill1,List.set_cons_succ,List.set_cons_zero,List.cons_append,List.nil_append,List.getElem?_cons_zero]
 have hps:(ps.map fun p=>[V.d (intsD p)])=(ps.map pathD).map fun c=>c.map V.d:=by rw[List.map_map]; rfl
 rw[hps]
 simp only[zX,Nat.reduceShiftRight,Nat.reduceMod,Nat.reduceLT,Nat.reduceMul,Nat.reduceSub,Int.reduceToNat,Int.reduceNeg,Int.reduceLT,Int.reduceLE,Int.reduceEq,Nat.reduceEqDiff,Nat.reduceAdd,Nat.reduceLeDiff,reduceIte,reduceCtorEq,Nat.reduceBEq,i64,iD,bD,renO,renV.go,renV,List.getD_cons_zero,List.getD_cons_succ,List.length_map]
 rw[if_pos (by omega),frz_data 7 0 _ _ _ (by simp)]
 rfl
end Go.Proofs.Ytffeafbdcakfbaa
