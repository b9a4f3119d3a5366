/- A part of the proof (F17 F18). -/
import Derived.Test.YtffeafbdcakfbaaAQ3
set_option linter.unusedSimpArgs false
set_option linter.unusedVariables false
set_option maxRecDepth 100000
set_option maxHeartbeats 80000000
set_option linter.unusedSimpArgs false
set_option linter.unusedVariables false
namespace Go.Proofs.Ytffeafbdcakfbaa
open Go.VL Go.Proofs.Try
def cloneO (re:Re) (v:V):VL.Obj:=⟨0,true,8,[[i64 re.op,.d (.sl (re.set.map spanC)),v,i64 re.mn,i64 re.mx,i64 re.mode,i64 re.n,bV re.neg]]⟩
def zeroO:VL.Obj:=⟨0,true,8,[[i64 0,.fu [],.fu [],i64 0,i64 0,i64 0,i64 0,bV false]]⟩
theorem clone_ok (re:Re) (hs:re.fine=true):PureOK prog 38 [reV re] (reV re):=by
 revert hs
 refine Re.ind (Q:=fun re=>re.fine=true→PureOK prog 38 [reV re] (reV re)) (fun re ih hs=>?_) re
 obtain⟨hset1,hlen,hfk⟩:=Re.fine_spec hs
 refine fn_ok func38 rfl ntmps38 results38 rfl 0 57391 (by simp) (by simp) ?_
 simp only[zW,Nat.reduceShiftRight,Nat.reduceMod,Nat.reduceLT,Nat.reduceMul,Nat.reduceSub,Int.reduceToNat,Int.reduceNeg,Int.reduceLT,Int.reduceLE,Int.reduceEq,Nat.reduceEqDiff,Nat.reduceAdd,Nat.reduceLeDiff,reduceIte,reduceCtorEq,Nat.reduceBEq,i64,reV_eq re,iD,bD]
 refine call_pure (cloneSpans_ok re.set hset1) (by simp [refsV,refsV.go,reV_eq,i64,bV,reEl]) (by simp [refsV,refsV.go,reV_eq,i64,bV,reEl]) ?_
 simp only[zW,Nat.reduceShiftRight,Nat.reduceMod,Nat.reduceLT,Nat.reduceMul,Nat.reduceSub,Int.reduceToNat,Int.reduceNeg,Int.reduceLT,Int.reduceLE,Int.reduceEq,Nat.reduceEqDiff,Nat.reduceAdd,Nat.reduceLeDiff,reduceIte,reduceCtorEq,Nat.reduceBEq,i64,iD,bD]
 refine loop_rule (fun n e s=>∃i:Nat,n=re.kids.length - i∧i≤re.kids.length∧e 1=.rf 0 0 0 0∧e 2=.rf 1 0 0 0∧e 13=.d (.sl (re.kids.map Re.cells))∧e 14=i64 re.kids.length∧e 15=i64 i ∧
   ((i=0∧s=[cloneO re (.fu []),zeroO])∨∃g X,objOk 4 X=true∧s=[cloneO re (.so 3 g 0 i),zeroO,X,⟨g,true,8,((re.kids.take i).map Re.cells).map fun c=>c.map V.d⟩]))
  ⟨_,_,_,Cln.refl,0,rfl,by omega,rfl,rfl,rfl,rfl,rfl,.inl ⟨rfl,rfl⟩⟩ ?_
 rintro n e s ⟨i,rfl,hi,h1,h2,h13,h14,h15,hacc⟩
 rcases Nat.lt_or_ge i re.kids.length with hlt | hge
 ·obtain⟨k,hk⟩:∃k,re.kids[i]?=some k:=⟨_,List.getElem?_eq_getElem hlt⟩
  have hm:=List.mem_of_getElem? hk
  have hks:=hfk k hm
  rcases hacc with ⟨rfl,rfl⟩ | ⟨g,X,hX,rfl⟩
  ·simp only[zW,Nat.reduceShiftRight,Nat.reduceMod,Nat.reduceLT,Nat.reduceMul,Nat.reduceSub,Int.reduceToNat,Int.reduceNeg,Int.reduceLT,Int.reduceLE,Int.reduceEq,Nat.reduceEqDiff,Nat.reduceAdd,Nat.reduceLeDiff,reduceIte,reduceCtorEq,Nat.reduceBEq,h1,h2,h13,h14,h15,i64,bV,hlt,hk,cloneO,zeroO]
   refine draw_c mix [5,7] [] (by rfl) ?_
   simp only[zW,Nat.reduceShiftRight,Nat.reduceMod,Nat.reduceLT,Nat.reduceMul,Nat.reduceSub,Int.reduceToNat,Int.reduceNeg,Int.reduceLT,Int.reduceLE,Int.reduceEq,Nat.reduceEqDiff,Nat.reduceAdd,Nat.reduceLeDiff,reduceIte,reduceCtorEq,Nat.reduceBEq,h1,h2,h13,h14,h15,i64,bV]
   refine callC_pure (ih k hm hks) (by simp [refsV,refsV.go,reV_eq,i64,bV,reEl]) (by simp [refsV,refsV.go,reV_eq,i64,bV,reEl]) ?_
   simp only[zW,Nat.reduceShiftRight,Nat.reduceMod,Nat.reduceLT,Nat.reduceMul,Nat.reduceSub,Int.reduceToNat,Int.reduceNeg,Int.reduceLT,Int.reduceLE,Int.reduceEq,Nat.reduceEqDiff,Nat.reduceAdd,Nat.reduceLeDiff,reduceIte,reduceCtorEq,Nat.reduceBEq,h1,h2,h13,h14,h15,i64,bV]
   refine⟨fun x hx=>by rw[List.mem_singleton.1 hx]; simp [Re.cells_len],by simp,re.kids.length - 1,_,_,by omega,Cln.refl,1,rfl,by omega,?_,?_,?_,?_,?_,.inr ⟨0,_,?_,by rw[take_get hk]; rfl⟩⟩ <;> (try simp only[zU,Nat.reduceBEq,Nat.reduceShiftRight,Nat.reduceMod,Nat.reduceEqDiff,reduceIte])
   ·exact h1
   ·exact h2
   ·exact h13
   ·exact h14
   ·rw[w64 _ (by omega)]; rfl
   ·simp [refsV]
  ·simp only[zW,Nat.reduceShiftRight,Nat.reduceMod,Nat.reduceLT,Nat.reduceMul,Nat.reduceSub,Int.reduceToNat,Int.reduceNeg,Int.reduceLT,Int.reduceLE,Int.reduceEq,Nat.reduceEqDiff,Nat.reduceAdd,Nat.reduceLeDiff,reduceIte,reduceCtorEq,Nat.reduceBEq,h1,h2,h13,h14,h15,i64,bV,hlt,hk,cloneO,zeroO]
   refine draw_c mix [5,7] [] (by rfl) ?_
   simp only[zW,Nat.reduceShiftRight,Nat.reduceMod,Nat.reduceLT,Nat.reduceMul,Nat.reduceSub,Int.reduceToNat,Int.reduceNeg,Int.reduceLT,Int.reduceLE,Int.reduceEq,Nat.reduceEqDiff,Nat.reduceAdd,Nat.reduceLeDiff,reduceIte,reduceCtorEq,Nat.reduceBEq,h1,h2,h13,h14,h15,i64,bV]
   refine callC_pure (ih k hm hks) (by simp [refsV,refsV.go,reV_eq,i64,bV,reEl]) (by simp [refsV,refsV.go,reV_eq,i64,bV,reEl]) ?_
   simp only[zW,Nat.reduceShiftRight,Nat.reduceMod,Nat.reduceLT,Nat.reduceMul,Nat.reduceSub,Int.reduceToNat,Int.reduceNeg,Int.reduceLT,Int.reduceLE,Int.reduceEq,Nat.reduceEqDiff,Nat.reduceAdd,Nat.reduceLeDiff,reduceIte,reduceCtorEq,Nat.reduceBEq,h1,h2,h13,h14,h15,i64,bV]
   have hcut:((((re.kids.take i).map Re.cells).map fun c=>c.map V.d).take i)=((re.kids.take i).map Re.cells).map fun c=>c.map V.d:=List.take_of_length_le (by simp; omega)
   refine⟨fun x hx=>by rw[List.mem_singleton.1 hx]; simp [Re.cells_len],⟨by simp; omega,by omega⟩,re.kids.length - (i + 1),_,_,by omega,Cln.cut 4 (by omega) rfl ?_ [1,2,13,14,15] ?_,i + 1,rfl,by omega,?_,?_,?_,?_,?_,.inr ⟨g + 1,X,hX,?_⟩⟩ <;> (try simp only[zU,Nat.reduceBEq,Nat.reduceShiftRight,Nat.reduceMod,Nat.reduceEqDiff,reduceIte])
   ·rw[hcut]
    simp only[objOk] at hX
    simp [objOk,refsV,hX]
    intro x hx y hy
    obtain⟨r,_,rfl⟩:=List.mem_map.1 (List.mem_of_mem_take hx)
    obtain⟨d,_,rfl⟩:=List.mem_map.1 hy
    rfl
   ·simp [updE,trimE_app,refsV,h1,h2,h13,h14,i64]
   ·exact h1
   ·exact h2
   ·exact h13
   ·exact h14
   ·rw[w64 _ (by omega)]; rfl
   ·rw[take_get hk]
    simp [List.take_take]
 ·have hie:i=re.kids.length:=by omega
  subst hie
  rcases hacc with ⟨h0,rfl⟩ | ⟨g,X,hX,rfl⟩
  ·simp only[zW,Nat.reduceShiftRight,Nat.reduceMod,Nat.reduceLT,Nat.reduceMul,Nat.reduceSub,Int.reduceToNat,Int.reduceNeg,Int.reduceLT,Int.reduceLE,Int.reduceEq,Nat.reduceEqDiff,Nat.reduceAdd,Nat.reduceLeDiff,reduceIte,reduceCtorEq,Nat.reduceBEq,h1,h2,h13,h14,h15,i64,bV,Nat.lt_irrefl,cloneO,zeroO]
   have:re.kids=[]:=List.eq_nil_of_length_eq_zero h0
   rw[this]
   rfl
  ·simp only[zW,Nat.reduceShiftRight,Nat.reduceMod,Nat.reduceLT,Nat.reduceMul,Nat.reduceSub,Int.reduceToNat,Int.reduceNeg,Int.reduceLT,Int.reduceLE,Int.reduceEq,Nat.reduceEqDiff,Nat.reduceAdd,Nat.reduceLeDiff,reduceIte,reduceCtorEq,Nat.reduceBEq,h1,h2,h13,h14,h15,i64,bV,Nat.lt_irrefl,cloneO,zeroO]
   rw[List.take_length,frz_data 7 0 _ _ _ (by simp),if_pos (by omega)]
   rfl
def rept (x:Re) (most mode:Int):Re:=.mk 4 [] [x] 0 most mode 0 false
def restR (mode:Int) (x:Re):Nat→Re
 | 0=>rept x 1 mode
 | j + 1=>rept (joinR [x,restR mode x j]) 1 mode
def unrollR (re x:Re):Re :=
 joinR (List.replicate re.mn.toNat x++(if re.mx=-1 then [rept x (-1) re.mode] else if re.mn < re.mx then [restR re.mode x (re.mx - re.mn - 1).toNat] else []))
def boxO (x:Re):VL.Obj:=⟨0,true,8,[x.cells.map .d]⟩
def arrO (g:Nat) (l:List Re):VL.Obj:=⟨g,true,8,(l.map Re.cells).map fun c=>c.map V.d⟩
def UnI (re x:Re) (e:Env) (s:List VL.Obj) (i:Nat):Prop :=
 e 0=reEl re∧e 3=.rf 0 0 0 0∧e 4=.rf 1 0 0 0∧((i=0∧e 5=.fu []∧s=[boxO x,zeroO])∨∃g,e 5=.so 2 g 0 i∧s=[boxO x,zeroO,arrO g (List.replicate i x)])
theorem frz_arr (n lim:Nat) (s:List VL.Obj) (l:List Re) (k:Nat) (hk:l.length≤k):(((l.map Re.cells).map fun c=>c.map V.d).take k).mapM (fun (e:List V)=>e.mapM (frzD n lim s))=some (l.map Re.cells):=frz_data n lim s _ k (by simpa using hk)
theorem frz_so {s:List VL.Obj} {id g n:Nat} {l:List Re} (h:s[id]?=some (arrO g l)) (hn:n=l.length):frzV.go (killO s [id]).length (killO s [id]) [.so id g 0 n]=some [.d (.sl (l.map Re.cells))]:=by
 subst hn
 have hlt:=(List.getElem?_eq_some_iff.1 h).1
 have hk:(killO s [id])[id]?=some { arrO g l with live:=false }:=by
  simp only[killO,kill1,h]
  rw[List.getElem?_set_self hlt]
 simp only[frzV.go,frzV,frzD,hk,arrO,List.drop_zero,Nat.zero_add,List.length_map,Nat.le_refl,true_and,or_true,if_true]
 rw[frz_arr _ _ _ _ _ (Nat.le_refl _)]
 simp
theorem call_join {s:List VL.Obj} {id g n:Nat} {l:List Re} {K:V→List VL.Obj→Prop} (h:s[id]?=some (arrO g l)) (hn:n=l.length) (hk:K (reV (joinR l)) (killO s [id])):callWp prog 111 [.so id g 0 n] s K :=
 call_give [id] (frz_so h hn) (call_pure (join_ok l) rfl (by simp [refsV,refsV.go,reV_eq,i64,bV,reEl]) hk)
theorem unroll_ok (re x:Re) (hx:x.fine=true) (h0:0≤re.mn) (h1:re.mn≤1000000) (h2:-1≤re.mx) (h3:re.mx≤1000000):PureOK prog 82 [reEl re,reV x] (reV (unrollR re x)):=by
 have hmn:(re.mn.toNat:Int)=re.mn:=Int.toNat_of_nonneg h0
 refine fn_ok func82 rfl ntmps82 results82 rfl 0 1729382256910273659 (by simp) (by simp) ?_
 simp only[zW,Nat.reduceShiftRight,Nat.reduceMod,Nat.reduceLT,Nat.reduceMul,Nat.reduceSub,Int.reduceToNat,Int.reduceNeg,Int.reduceLT,Int.reduceLE,Int.reduceEq,Nat.reduceEqDiff,Nat.reduceAdd,Nat.reduceLeDiff,reduceIte,reduceCtorEq,Nat.reduceBEq,i64,reEl,Re.cells_eq re,iD,bD]
 refine loop_rule (fun n e s=>∃i:Nat,n=re.mn.toNat - i∧i≤re.mn.toNat∧e 10=i64 re.mn∧e 11=i64 i∧UnI re x e s i)
  ⟨_,_,_,Cln.refl,0,rfl,by omega,rfl,rfl,by rw[reEl,Re.cells_eq re]; rfl,rfl,rfl,.inl ⟨rfl,rfl,rfl⟩⟩ ?_
 rintro n e s ⟨i,rfl,hi,h10,h11,e0,e3,e4,hacc⟩
 rcases Nat.lt_or_ge i re.mn.toNat with hlt | hge
 ·have hlt':(i:Int) < re.mn:=by omega
  have wi:IntKind.i64.wrap ((i:Int) + 1)=(i + 1:Nat):=by rw[w64 _ (by omega)]; omega
  rcases hacc with ⟨rfl,e5,rfl⟩ | ⟨g,e5,rfl⟩
  ·simp only[zW,Nat.reduceShiftRight,Nat.reduceMod,Nat.reduceLT,Nat.reduceMul,Nat.reduceSub,Int.reduceToNat,Int.reduceNeg,Int.reduceLT,Int.reduceLE,Int.reduceEq,Nat.reduceEqDiff,Nat.reduceAdd,Nat.reduceLeDiff,reduceIte,reduceCtorEq,Nat.reduceBEq,e0,e3,e4,e5,h10,h11,i64,hlt',boxO,zeroO]
   refine call_pure (clone_ok x hx) (by simp [refsV,refsV.go,reV_eq,i64,bV,reEl]) (by simp [refsV,refsV.go,reV_eq,i64,bV,reEl]) ?_
   simp only[zW,Nat.reduceShiftRight,Nat.reduceMod,Nat.reduceLT,Nat.reduceMul,Nat.reduceSub,Int.reduceToNat,Int.reduceNeg,Int.reduceLT,Int.reduceLE,Int.reduceEq,Nat.reduceEqDiff,Nat.reduceAdd,Nat.reduceLeDiff,reduceIte,reduceCtorEq,Nat.reduceBEq,e0,e3,e4,e5,h10,h11,i64,boxO,zeroO,wi]
   refine⟨fun y hy=>by rw[List.mem_singleton.1 hy]; simp [Re.cells_len],by simp,re.mn.toNat - 1,_,_,by omega,Cln.refl,1,rfl,by omega,?_,?_,?_,?_,?_,.inr ⟨0,?_,rfl⟩⟩ <;> simp only[zU,Nat.reduceBEq,Nat.reduceShiftRight,Nat.reduceMod,Nat.reduceEqDiff,reduceIte]
   ·exact h10
   ·exact e0
   ·exact e3
   ·exact e4
  ·simp only[zW,Nat.reduceShiftRight,Nat.reduceMod,Nat.reduceLT,Nat.reduceMul,Nat.reduceSub,Int.reduceToNat,Int.reduceNeg,Int.reduceLT,Int.reduceLE,Int.reduceEq,Nat.reduceEqDiff,Nat.reduceAdd,Nat.reduceLeDiff,reduceIte,reduceCtorEq,Nat.reduceBEq,e0,e3,e4,e5,h10,h11,i64,hlt',boxO,zeroO,arrO]
   refine call_pure (clone_ok x hx) (by simp [refsV,refsV.go,reV_eq,i64,bV,reEl]) (by simp [refsV,refsV.go,reV_eq,i64,bV,reEl]) ?_
   simp only[zW,Nat.reduceShiftRight,Nat.reduceMod,Nat.reduceLT,Nat.reduceMul,Nat.reduceSub,Int.reduceToNat,Int.reduceNeg,Int.reduceLT,Int.reduceLE,Int.reduceEq,Nat.reduceEqDiff,Nat.reduceAdd,Nat.reduceLeDiff,reduceIte,reduceCtorEq,Nat.reduceBEq,e0,e3,e4,e5,h10,h11,i64,boxO,zeroO,arrO,wi]
   refine⟨fun y hy=>by rw[List.mem_singleton.1 hy]; simp [Re.cells_len],⟨by simp,by omega⟩,re.mn.toNat - (i + 1),_,_,by omega,Cln.refl,i + 1,rfl,by omega,?_,?_,?_,?_,?_,.inr ⟨g + 1,?_,?_⟩⟩ <;> (try simp only[zU,Nat.reduceBEq,Nat.reduceShiftRight,Nat.reduceMod,Nat.reduceEqDiff,reduceIte])
   ·exact h10
   ·exact e0
   ·exact e3
   ·exact e4
   ·rw[List.take_of_length_le (by simp)]
    simp [boxO,zeroO,bV,i64,arrO,List.replicate_succ']
 have hie:i=re.mn.toNat:=by omega
 subst hie
 have hlt':¬(re.mn.toNat:Int) < re.mn:=by omega
 rcases hacc with ⟨hz,e5,rfl⟩ | ⟨g,e5,rfl⟩
 ·by_cases hm1:re.mx=-1
  ·rw[show unrollR re x=joinR [rept x (-1) re.mode] by simp [unrollR,hz,hm1]]
   simp only[zW,Nat.reduceShiftRight,Nat.reduceMod,Nat.reduceLT,Nat.reduceMul,Nat.reduceSub,Int.reduceToNat,Int.reduceNeg,Int.reduceLT,Int.reduceLE,Int.reduceEq,Nat.reduceEqDiff,Nat.reduceAdd,Nat.reduceLeDiff,reduceIte,reduceCtorEq,Nat.reduceBEq,e0,e3,e4,e5,h10,h11,i64,boxO,zeroO,arrO,reEl,Re.cells_eq re,iD,bD,hlt',hm1]
   refine draw_c mix [9] [] (by rfl) ?_
   simp only[zW,Nat.reduceShiftRight,Nat.reduceMod,Nat.reduceLT,Nat.reduceMul,Nat.reduceSub,Int.reduceToNat,Int.reduceNeg,Int.reduceLT,Int.reduceLE,Int.reduceEq,Nat.reduceEqDiff,Nat.reduceAdd,Nat.reduceLeDiff,reduceIte,reduceCtorEq,Nat.reduceBEq,e0,e3,e4,e5,h10,h11,i64,boxO,zeroO,arrO,reEl,Re.cells_eq re,iD,bD,hm1]
   refine callC_pure (clone_ok x hx) (by simp [refsV,refsV.go,reV_eq,i64,bV,reEl]) (by simp [refsV,refsV.go,reV_eq,i64,bV,reEl]) ?_
   simp only[zW,Nat.reduceShiftRight,Nat.reduceMod,Nat.reduceLT,Nat.reduceMul,Nat.reduceSub,Int.reduceToNat,Int.reduceNeg,Int.reduceLT,Int.reduceLE,Int.reduceEq,Nat.reduceEqDiff,Nat.reduceAdd,Nat.reduceLeDiff,reduceIte,reduceCtorEq,Nat.reduceBEq,e0,e3,e4,e5,h10,h11,i64,boxO,zeroO,arrO,reEl,Re.cells_eq re,iD,bD,hm1]
   refine callC_pure (repeat_ok x (-1) re.mode) (by simp [refsV,refsV.go,reV_eq,i64,bV,reEl]) (by simp [refsV,refsV.go,reV_eq,i64,bV,reEl]) ?_
   simp only[zW,Nat.reduceShiftRight,Nat.reduceMod,Nat.reduceLT,Nat.reduceMul,Nat.reduceSub,Int.reduceToNat,Int.reduceNeg,Int.reduceLT,Int.reduceLE,Int.reduceEq,Nat.reduceEqDiff,Nat.reduceAdd,Nat.reduceLeDiff,reduceIte,reduceCtorEq,Nat.reduceBEq,e0,e3,e4,e5,h10,h11,i64,boxO,zeroO,arrO,reEl,Re.cells_eq re,iD,bD,hm1]
   refine⟨fun y hy=>by rw[List.mem_singleton.1 hy]; simp [Re.cells_len],by simp,?_⟩
   refine call_join (id:=2) (g:=0) (l:=[rept x (-1) re.mode]) (by simp [arrO,rept]) (by simp) ?_
   simp only[zW,Nat.reduceShiftRight,Nat.reduceMod,Nat.reduceLT,Nat.reduceMul,Nat.reduceSub,Int.reduceToNat,Int.reduceNeg,Int.reduceLT,Int.reduceLE,Int.reduceEq,Nat.reduceEqDiff,Nat.reduceAdd,Nat.reduceLeDiff,reduceIte,reduceCtorEq,Nat.reduceBEq,e0,e3,e4,e5,h10,h11,i64,boxO,zeroO,arrO,reEl,Re.cells_eq re,iD,bD,killO,kill1]
   all_goals first | exact⟨rfl,rfl⟩ | exact⟨rfl,trivial⟩ | rfl | trivial | (rw[reV_eq]; rfl)
  by_cases hm2:re.mn < re.mx
  ·rw[show unrollR re x=joinR [restR re.mode x (re.mx - re.mn - 1).toNat] by simp [unrollR,hz,hm1,hm2]]
   have w1:IntKind.i64.wrap (re.mx - re.mn)=re.mx - re.mn:=w64 _ (by omega)
   have w2:IntKind.i64.wrap (re.mx - re.mn - 1)=re.mx - re.mn - 1:=w64 _ (by omega)
   have hd:((re.mx - re.mn - 1).toNat:Int)=re.mx - re.mn - 1:=Int.toNat_of_nonneg (by omega)
   simp only[zW,Nat.reduceShiftRight,Nat.reduceMod,Nat.reduceLT,Nat.reduceMul,Nat.reduceSub,Int.reduceToNat,Int.reduceNeg,Int.reduceLT,Int.reduceLE,Int.reduceEq,Nat.reduceEqDiff,Nat.reduceAdd,Nat.reduceLeDiff,reduceIte,reduceCtorEq,Nat.reduceBEq,e0,e3,e4,e5,h10,h11,i64,boxO,zeroO,arrO,reEl,Re.cells_eq re,iD,bD,hlt',hm1]
   refine draw_c mix [] [] (by rfl) ?_
   simp only[zW,Nat.reduceShiftRight,Nat.reduceMod,Nat.reduceLT,Nat.reduceMul,Nat.reduceSub,Int.reduceToNat,Int.reduceNeg,Int.reduceLT,Int.reduceLE,Int.reduceEq,Nat.reduceEqDiff,Nat.reduceAdd,Nat.reduceLeDiff,reduceIte,reduceCtorEq,Nat.reduceBEq,e0,e3,e4,e5,h10,h11,i64,boxO,zeroO,arrO,reEl,Re.cells_eq re,iD,bD,hm1,hm2]
   refine draw_first Cln0.reserve ?_
   refine draw_c mix [8] [(7,[2],[2])] (by rfl) ?_
   simp only[zW,Nat.reduceShiftRight,Nat.reduceMod,Nat.reduceLT,Nat.reduceMul,Nat.reduceSub,Int.reduceToNat,Int.reduceNeg,Int.reduceLT,Int.reduceLE,Int.reduceEq,Nat.reduceEqDiff,Nat.reduceAdd,Nat.reduceLeDiff,reduceIte,reduceCtorEq,Nat.reduceBEq,e0,e3,e4,e5,h10,h11,i64,boxO,zeroO,arrO,reEl,Re.cells_eq re,iD,bD,hm1,hm2]
   refine callC_pure (clone_ok x hx) (by simp [refsV,refsV.go,reV_eq,i64,bV,reEl]) (by simp [refsV,refsV.go,reV_eq,i64,bV,reEl]) ?_
   simp only[zW,Nat.reduceShiftRight,Nat.reduceMod,Nat.reduceLT,Nat.reduceMul,Nat.reduceSub,Int.reduceToNat,Int.reduceNeg,Int.reduceLT,Int.reduceLE,Int.reduceEq,Nat.reduceEqDiff,Nat.reduceAdd,Nat.reduceLeDiff,reduceIte,reduceCtorEq,Nat.reduceBEq,e0,e3,e4,e5,h10,h11,i64,boxO,zeroO,arrO,reEl,Re.cells_eq re,iD,bD,hm1]
   refine callC_pure (repeat_ok x 1 re.mode) (by simp [refsV,refsV.go,reV_eq,i64,bV,reEl]) (by simp [refsV,refsV.go,reV_eq,i64,bV,reEl]) ?_
   simp only[zW,Nat.reduceShiftRight,Nat.reduceMod,Nat.reduceLT,Nat.reduceMul,Nat.reduceSub,Int.reduceToNat,Int.reduceNeg,Int.reduceLT,Int.reduceLE,Int.reduceEq,Nat.reduceEqDiff,Nat.reduceAdd,Nat.reduceLeDiff,reduceIte,reduceCtorEq,Nat.reduceBEq,e0,e3,e4,e5,h10,h11,i64,boxO,zeroO,arrO,reEl,Re.cells_eq re,iD,bD,hm1]
   refine draw_c mix [] [] (by rfl) ?_
   simp only[zW,Nat.reduceShiftRight,Nat.reduceMod,Nat.reduceLT,Nat.reduceMul,Nat.reduceSub,Int.reduceToNat,Int.reduceNeg,Int.reduceLT,Int.reduceLE,Int.reduceEq,Nat.reduceEqDiff,Nat.reduceAdd,Nat.reduceLeDiff,reduceIte,reduceCtorEq,Nat.reduceBEq,e0,e3,e4,e5,h10,h11,i64,boxO,zeroO,arrO,reEl,Re.cells_eq re,iD,bD,hm1,hm2,w1,w2]
   refine loop_rule (fun n e s=>∃j:Nat,n=(re.mx - re.mn - 1).toNat - j∧j≤(re.mx - re.mn - 1).toNat∧e 59=i64 (re.mx - re.mn - 1)∧e 60=i64 j∧e 0=reEl re∧e 3=.rf 0 0 0 0∧e 4=.rf 1 0 0 0∧e 5=.fu []∧e 6=.rf 2 1 0 0∧s=[boxO x,zeroO,⟨1,true,8,[(restR re.mode x j).cells.map .d]⟩])
    ⟨_,_,_,Cln.refl,0,rfl,by omega,rfl,rfl,?_,?_,?_,?_,rfl,rfl⟩ ?_
   ·simp only[zU,Nat.reduceBEq,Nat.reduceShiftRight,Nat.reduceMod,Nat.reduceEqDiff,reduceIte]; simpa [reEl,Re.cells_eq re,iD,bD] using e0
   ·simp only[zU,Nat.reduceBEq,Nat.reduceShiftRight,Nat.reduceMod,Nat.reduceEqDiff,reduceIte]; exact e3
   ·simp only[zU,Nat.reduceBEq,Nat.reduceShiftRight,Nat.reduceMod,Nat.reduceEqDiff,reduceIte]; exact e4
   ·simp only[zU,Nat.reduceBEq,Nat.reduceShiftRight,Nat.reduceMod,Nat.reduceEqDiff,reduceIte]; exact e5
   rintro n e s ⟨j,rfl,hj,h59,h60,e0,e3,e4,e5,e6,rfl⟩
   rcases Nat.lt_or_ge j (re.mx - re.mn - 1).toNat with hlt | hge
   ·have hlt':(j:Int) < re.mx - re.mn - 1:=by omega
    have wj:IntKind.i64.wrap ((j:Int) + 1)=(j + 1:Nat):=by rw[w64 _ (by omega)]; omega
    simp only[zW,Nat.reduceShiftRight,Nat.reduceMod,Nat.reduceLT,Nat.reduceMul,Nat.reduceSub,Int.reduceToNat,Int.reduceNeg,Int.reduceLT,Int.reduceLE,Int.reduceEq,Nat.reduceEqDiff,Nat.reduceAdd,Nat.reduceLeDiff,reduceIte,reduceCtorEq,Nat.reduceBEq,e0,e3,e4,e5,h10,h11,i64,boxO,zeroO,arrO,reEl,Re.cells_eq re,iD,bD,e6,h59,h60,hlt']
    refine draw_c mix [10] [] (by rfl) ?_
    simp only[zW,Nat.reduceShiftRight,Nat.reduceMod,Nat.reduceLT,Nat.reduceMul,Nat.reduceSub,Int.reduceToNat,Int.reduceNeg,Int.reduceLT,Int.reduceLE,Int.reduceEq,Nat.reduceEqDiff,Nat.reduceAdd,Nat.reduceLeDiff,reduceIte,reduceCtorEq,Nat.reduceBEq,e0,e3,e4,e5,h10,h11,i64,boxO,zeroO,arrO,reEl,Re.cells_eq re,iD,bD,e6,h59,h60]
    refine callC_pure (clone_ok x hx) (by simp [refsV,refsV.go,reV_eq,i64,bV,reEl]) (by simp [refsV,refsV.go,reV_eq,i64,bV,reEl]) ?_
    simp only[zW,Nat.reduceShiftRight,Nat.reduceMod,Nat.reduceLT,Nat.reduceMul,Nat.reduceSub,Int.reduceToNat,Int.reduceNeg,Int.reduceLT,Int.reduceLE,Int.reduceEq,Nat.reduceEqDiff,Nat.reduceAdd,Nat.reduceLeDiff,reduceIte,reduceCtorEq,Nat.reduceBEq,e0,e3,e4,e5,h10,h11,i64,boxO,zeroO,arrO,reEl,Re.cells_eq re,iD,bD,e6,h59,h60]
    refine callC_give (join_ok [x,restR re.mode x j]) (fun s'=>rfl) rfl (by simp [refsV,refsV.go,reV_eq,i64,bV,reEl]) ?_
    simp only[zW,Nat.reduceShiftRight,Nat.reduceMod,Nat.reduceLT,Nat.reduceMul,Nat.reduceSub,Int.reduceToNat,Int.reduceNeg,Int.reduceLT,Int.reduceLE,Int.reduceEq,Nat.reduceEqDiff,Nat.reduceAdd,Nat.reduceLeDiff,reduceIte,reduceCtorEq,Nat.reduceBEq,e0,e3,e4,e5,h10,h11,i64,boxO,zeroO,arrO,reEl,Re.cells_eq re,iD,bD,e6,h59,h60]
    refine callC_pure (repeat_ok (joinR [x,restR re.mode x j]) 1 re.mode) (by simp [refsV,refsV.go,reV_eq,i64,bV,reEl]) (by simp [refsV,refsV.go,reV_eq,i64,bV,reEl]) ?_
    simp only[zW,Nat.reduceShiftRight,Nat.reduceMod,Nat.reduceLT,Nat.reduceMul,Nat.reduceSub,Int.reduceToNat,Int.reduceNeg,Int.reduceLT,Int.reduceLE,Int.reduceEq,Nat.reduceEqDiff,Nat.reduceAdd,Nat.reduceLeDiff,reduceIte,reduceCtorEq,Nat.reduceBEq,e0,e3,e4,e5,h10,h11,i64,boxO,zeroO,arrO,reEl,Re.cells_eq re,iD,bD,e6,h59,h60,wj]
    refine⟨(re.mx - re.mn - 1).toNat - (j + 1),_,_,by omega,Cln.refl,j + 1,rfl,by omega,?_,?_,?_,?_,?_,?_,?_,rfl⟩ <;> (try simp only[zU,Nat.reduceBEq,Nat.reduceShiftRight,Nat.reduceMod,Nat.reduceEqDiff,reduceIte])
    ·exact h59
    ·simpa [reEl,Re.cells_eq re,iD,bD] using e0
    ·exact e3
    ·exact e4
    ·exact e5
    ·exact e6
   ·have hje:j=(re.mx - re.mn - 1).toNat:=by omega
    subst hje
    have hlt':¬((re.mx - re.mn - 1).toNat:Int) < re.mx - re.mn - 1:=by omega
    simp only[zW,Nat.reduceShiftRight,Nat.reduceMod,Nat.reduceLT,Nat.reduceMul,Nat.reduceSub,Int.reduceToNat,Int.reduceNeg,Int.reduceLT,Int.reduceLE,Int.reduceEq,Nat.reduceEqDiff,Nat.reduceAdd,Nat.reduceLeDiff,reduceIte,reduceCtorEq,Nat.reduceBEq,e0,e3,e4,e5,h10,h11,i64,boxO,zeroO,arrO,reEl,Re.cells_eq re,iD,bD,e6,h59,h60,hlt']
    refine⟨fun y hy=>by rw[List.mem_singleton.1 hy]; simp [Re.cells_len],by simp,?_⟩
    refine call_join (id:=3) (g:=0) (l:=[restR re.mode x (re.mx - re.mn - 1).toNat]) (by simp [arrO]) (by simp) ?_
    simp only[zW,Nat.reduceShiftRight,Nat.reduceMod,Nat.reduceLT,Nat.reduceMul,Nat.reduceSub,Int.reduceToNat,Int.reduceNeg,Int.reduceLT,Int.reduceLE,Int.reduceEq,Nat.reduceEqDiff,Nat.reduceAdd,Nat.reduceLeDiff,reduceIte,reduceCtorEq,Nat.reduceBEq,e0,e3,e4,e5,h10,h11,i64,boxO,zeroO,arrO,reEl,Re.cells_eq re,iD,bD,killO,kill1]
    all_goals first | exact⟨rfl,rfl⟩ | exact⟨rfl,trivial⟩ | rfl | trivial | (rw[reV_eq]; rfl)
  ·rw[show unrollR re x=joinR [] by simp [unrollR,hz,hm1,hm2]]
   simp only[zW,Nat.reduceShiftRight,Nat.reduceMod,Nat.reduceLT,Nat.reduceMul,Nat.reduceSub,Int.reduceToNat,Int.reduceNeg,Int.reduceLT,Int.reduceLE,Int.reduceEq,Nat.reduceEqDiff,Nat.reduceAdd,Nat.reduceLeDiff,reduceIte,reduceCtorEq,Nat.reduceBEq,e0,e3,e4,e5,h10,h11,i64,boxO,zeroO,arrO,reEl,Re.cells_eq re,iD,bD,hlt',hm1]
   refine draw_c mix [] [] (by rfl) ?_
   simp only[zW,Nat.reduceShiftRight,Nat.reduceMod,Nat.reduceLT,Nat.reduceMul,Nat.reduceSub,Int.reduceToNat,Int.reduceNeg,Int.reduceLT,Int.reduceLE,Int.reduceEq,Nat.reduceEqDiff,Nat.reduceAdd,Nat.reduceLeDiff,reduceIte,reduceCtorEq,Nat.reduceBEq,e0,e3,e4,e5,h10,h11,i64,boxO,zeroO,arrO,reEl,Re.cells_eq re,iD,bD,hm1,hm2]
   refine call_give [] rfl (call_pure (join_ok []) rfl (by simp [refsV,refsV.go,reV_eq,i64,bV,reEl]) ?_)
   simp only[zW,Nat.reduceShiftRight,Nat.reduceMod,Nat.reduceLT,Nat.reduceMul,Nat.reduceSub,Int.reduceToNat,Int.reduceNeg,Int.reduceLT,Int.reduceLE,Int.reduceEq,Nat.reduceEqDiff,Nat.reduceAdd,Nat.reduceLeDiff,reduceIte,reduceCtorEq,Nat.reduceBEq,e0,e3,e4,e5,h10,h11,i64,boxO,zeroO,arrO,reEl,Re.cells_eq re,iD,bD,killO,kill1]
   all_goals first | exact⟨rfl,rfl⟩ | exact⟨rfl,trivial⟩ | rfl | trivial | (rw[reV_eq]; rfl)
 ·by_cases hm1:re.mx=-1
  ·rw[show unrollR re x=joinR (List.replicate re.mn.toNat x++[rept x (-1) re.mode]) by simp [unrollR,hm1]]
   simp only[zW,Nat.reduceShiftRight,Nat.reduceMod,Nat.reduceLT,Nat.reduceMul,Nat.reduceSub,Int.reduceToNat,Int.reduceNeg,Int.reduceLT,Int.reduceLE,Int.reduceEq,Nat.reduceEqDiff,Nat.reduceAdd,Nat.reduceLeDiff,reduceIte,reduceCtorEq,Nat.reduceBEq,e0,e3,e4,e5,h10,h11,i64,boxO,zeroO,arrO,reEl,Re.cells_eq re,iD,bD,hlt',hm1]
   refine draw_c mix [9] [] (by rfl) ?_
   simp only[zW,Nat.reduceShiftRight,Nat.reduceMod,Nat.reduceLT,Nat.reduceMul,Nat.reduceSub,Int.reduceToNat,Int.reduceNeg,Int.reduceLT,Int.reduceLE,Int.reduceEq,Nat.reduceEqDiff,Nat.reduceAdd,Nat.reduceLeDiff,reduceIte,reduceCtorEq,Nat.reduceBEq,e0,e3,e4,e5,h10,h11,i64,boxO,zeroO,arrO,reEl,Re.cells_eq re,iD,bD,hm1]
   refine callC_pure (clone_ok x hx) (by simp [refsV,refsV.go,reV_eq,i64,bV,reEl]) (by simp [refsV,refsV.go,reV_eq,i64,bV,reEl]) ?_
   simp only[zW,Nat.reduceShiftRight,Nat.reduceMod,Nat.reduceLT,Nat.reduceMul,Nat.reduceSub,Int.reduceToNat,Int.reduceNeg,Int.reduceLT,Int.reduceLE,Int.reduceEq,Nat.reduceEqDiff,Nat.reduceAdd,Nat.reduceLeDiff,reduceIte,reduceCtorEq,Nat.reduceBEq,e0,e3,e4,e5,h10,h11,i64,boxO,zeroO,arrO,reEl,Re.cells_eq re,iD,bD,hm1]
   refine callC_pure (repeat_ok x (-1) re.mode) (by simp [refsV,refsV.go,reV_eq,i64,bV,reEl]) (by simp [refsV,refsV.go,reV_eq,i64,bV,reEl]) ?_
   simp only[zW,Nat.reduceShiftRight,Nat.reduceMod,Nat.reduceLT,Nat.reduceMul,Nat.reduceSub,Int.reduceToNat,Int.reduceNeg,Int.reduceLT,Int.reduceLE,Int.reduceEq,Nat.reduceEqDiff,Nat.reduceAdd,Nat.reduceLeDiff,reduceIte,reduceCtorEq,Nat.reduceBEq,e0,e3,e4,e5,h10,h11,i64,boxO,zeroO,arrO,reEl,Re.cells_eq re,iD,bD,hm1]
   refine⟨fun y hy=>by rw[List.mem_singleton.1 hy]; simp [Re.cells_len],⟨by simp,by omega⟩,?_⟩
   refine call_join (id:=2) (g:=(g + 1)) (l:=(List.replicate re.mn.toNat x++[rept x (-1) re.mode])) (by simp [arrO,rept]) (by simp) ?_
   simp only[zW,Nat.reduceShiftRight,Nat.reduceMod,Nat.reduceLT,Nat.reduceMul,Nat.reduceSub,Int.reduceToNat,Int.reduceNeg,Int.reduceLT,Int.reduceLE,Int.reduceEq,Nat.reduceEqDiff,Nat.reduceAdd,Nat.reduceLeDiff,reduceIte,reduceCtorEq,Nat.reduceBEq,e0,e3,e4,e5,h10,h11,i64,boxO,zeroO,arrO,reEl,Re.cells_eq re,iD,bD,killO,kill1]
   all_goals first | exact⟨rfl,rfl⟩ | exact⟨rfl,trivial⟩ | rfl | trivial | (rw[reV_eq]; rfl)
  by_cases hm2:re.mn < re.mx
  ·rw[show unrollR re x=joinR (List.replicate re.mn.toNat x++[restR re.mode x (re.mx - re.mn - 1).toNat]) by simp [unrollR,hm1,hm2]]
   have w1:IntKind.i64.wrap (re.mx - re.mn)=re.mx - re.mn:=w64 _ (by omega)
   have w2:IntKind.i64.wrap (re.mx - re.mn - 1)=re.mx - re.mn - 1:=w64 _ (by omega)
   have hd:((re.mx - re.mn - 1).toNat:Int)=re.mx - re.mn - 1:=Int.toNat_of_nonneg (by omega)
   simp only[zW,Nat.reduceShiftRight,Nat.reduceMod,Nat.reduceLT,Nat.reduceMul,Nat.reduceSub,Int.reduceToNat,Int.reduceNeg,Int.reduceLT,Int.reduceLE,Int.reduceEq,Nat.reduceEqDiff,Nat.reduceAdd,Nat.reduceLeDiff,reduceIte,reduceCtorEq,Nat.reduceBEq,e0,e3,e4,e5,h10,h11,i64,boxO,zeroO,arrO,reEl,Re.cells_eq re,iD,bD,hlt',hm1]
   refine draw_c mix [] [] (by rfl) ?_
   simp only[zW,Nat.reduceShiftRight,Nat.reduceMod,Nat.reduceLT,Nat.reduceMul,Nat.reduceSub,Int.reduceToNat,Int.reduceNeg,Int.reduceLT,Int.reduceLE,Int.reduceEq,Nat.reduceEqDiff,Nat.reduceAdd,Nat.reduceLeDiff,reduceIte,reduceCtorEq,Nat.reduceBEq,e0,e3,e4,e5,h10,h11,i64,boxO,zeroO,arrO,reEl,Re.cells_eq re,iD,bD,hm1,hm2]
   refine draw_first Cln0.reserve ?_
   refine draw_c mix [8] [(7,[3],[3])] (by rfl) ?_
   simp only[zW,Nat.reduceShiftRight,Nat.reduceMod,Nat.reduceLT,Nat.reduceMul,Nat.reduceSub,Int.reduceToNat,Int.reduceNeg,Int.reduceLT,Int.reduceLE,Int.reduceEq,Nat.reduceEqDiff,Nat.reduceAdd,Nat.reduceLeDiff,reduceIte,reduceCtorEq,Nat.reduceBEq,e0,e3,e4,e5,h10,h11,i64,boxO,zeroO,arrO,reEl,Re.cells_eq re,iD,bD,hm1,hm2]
   refine callC_pure (clone_ok x hx) (by simp [refsV,refsV.go,reV_eq,i64,bV,reEl]) (by simp [refsV,refsV.go,reV_eq,i64,bV,reEl]) ?_
   simp only[zW,Nat.reduceShiftRight,Nat.reduceMod,Nat.reduceLT,Nat.reduceMul,Nat.reduceSub,Int.reduceToNat,Int.reduceNeg,Int.reduceLT,Int.reduceLE,Int.reduceEq,Nat.reduceEqDiff,Nat.reduceAdd,Nat.reduceLeDiff,reduceIte,reduceCtorEq,Nat.reduceBEq,e0,e3,e4,e5,h10,h11,i64,boxO,zeroO,arrO,reEl,Re.cells_eq re,iD,bD,hm1]
   refine callC_pure (repeat_ok x 1 re.mode) (by simp [refsV,refsV.go,reV_eq,i64,bV,reEl]) (by simp [refsV,refsV.go,reV_eq,i64,bV,reEl]) ?_
   simp only[zW,Nat.reduceShiftRight,Nat.reduceMod,Nat.reduceLT,Nat.reduceMul,Nat.reduceSub,Int.reduceToNat,Int.reduceNeg,Int.reduceLT,Int.reduceLE,Int.reduceEq,Nat.reduceEqDiff,Nat.reduceAdd,Nat.reduceLeDiff,reduceIte,reduceCtorEq,Nat.reduceBEq,e0,e3,e4,e5,h10,h11,i64,boxO,zeroO,arrO,reEl,Re.cells_eq re,iD,bD,hm1]
   refine draw_c mix [] [] (by rfl) ?_
   simp only[zW,Nat.reduceShiftRight,Nat.reduceMod,Nat.reduceLT,Nat.reduceMul,Nat.reduceSub,Int.reduceToNat,Int.reduceNeg,Int.reduceLT,Int.reduceLE,Int.reduceEq,Nat.reduceEqDiff,Nat.reduceAdd,Nat.reduceLeDiff,reduceIte,reduceCtorEq,Nat.reduceBEq,e0,e3,e4,e5,h10,h11,i64,boxO,zeroO,arrO,reEl,Re.cells_eq re,iD,bD,hm1,hm2,w1,w2]
   refine loop_rule (fun n e s=>∃j:Nat,n=(re.mx - re.mn - 1).toNat - j∧j≤(re.mx - re.mn - 1).toNat∧e 59=i64 (re.mx - re.mn - 1)∧e 60=i64 j∧e 0=reEl re∧e 3=.rf 0 0 0 0∧e 4=.rf 1 0 0 0∧e 5=.so 2 g 0 re.mn.toNat∧e 6=.rf 3 1 0 0∧s=[boxO x,zeroO,arrO g (List.replicate re.mn.toNat x),⟨1,true,8,[(restR re.mode x j).cells.map .d]⟩])
    ⟨_,_,_,Cln.refl,0,rfl,by omega,rfl,rfl,?_,?_,?_,?_,rfl,rfl⟩ ?_
   ·simp only[zU,Nat.reduceBEq,Nat.reduceShiftRight,Nat.reduceMod,Nat.reduceEqDiff,reduceIte]; simpa [reEl,Re.cells_eq re,iD,bD] using e0
   ·simp only[zU,Nat.reduceBEq,Nat.reduceShiftRight,Nat.reduceMod,Nat.reduceEqDiff,reduceIte]; exact e3
   ·simp only[zU,Nat.reduceBEq,Nat.reduceShiftRight,Nat.reduceMod,Nat.reduceEqDiff,reduceIte]; exact e4
   ·simp only[zU,Nat.reduceBEq,Nat.reduceShiftRight,Nat.reduceMod,Nat.reduceEqDiff,reduceIte]; exact e5
   rintro n e s ⟨j,rfl,hj,h59,h60,e0,e3,e4,e5,e6,rfl⟩
   rcases Nat.lt_or_ge j (re.mx - re.mn - 1).toNat with hlt | hge
   ·have hlt':(j:Int) < re.mx - re.mn - 1:=by omega
    have wj:IntKind.i64.wrap ((j:Int) + 1)=(j + 1:Nat):=by rw[w64 _ (by omega)]; omega
    simp only[zW,Nat.reduceShiftRight,Nat.reduceMod,Nat.reduceLT,Nat.reduceMul,Nat.reduceSub,Int.reduceToNat,Int.reduceNeg,Int.reduceLT,Int.reduceLE,Int.reduceEq,Nat.reduceEqDiff,Nat.reduceAdd,Nat.reduceLeDiff,reduceIte,reduceCtorEq,Nat.reduceBEq,e0,e3,e4,e5,h10,h11,i64,boxO,zeroO,arrO,reEl,Re.cells_eq re,iD,bD,e6,h59,h60,hlt']
    refine draw_c mix [10] [] (by rfl) ?_
    simp only[zW,Nat.reduceShiftRight,Nat.reduceMod,Nat.reduceLT,Nat.reduceMul,Nat.reduceSub,Int.reduceToNat,Int.reduceNeg,Int.reduceLT,Int.reduceLE,Int.reduceEq,Nat.reduceEqDiff,Nat.reduceAdd,Nat.reduceLeDiff,reduceIte,reduceCtorEq,Nat.reduceBEq,e0,e3,e4,e5,h10,h11,i64,boxO,zeroO,arrO,reEl,Re.cells_eq re,iD,bD,e6,h59,h60]
    refine callC_pure (clone_ok x hx) (by simp [refsV,refsV.go,reV_eq,i64,bV,reEl]) (by simp [refsV,refsV.go,reV_eq,i64,bV,reEl]) ?_
    simp only[zW,Nat.reduceShiftRight,Nat.reduceMod,Nat.reduceLT,Nat.reduceMul,Nat.reduceSub,Int.reduceToNat,Int.reduceNeg,Int.reduceLT,Int.reduceLE,Int.reduceEq,Nat.reduceEqDiff,Nat.reduceAdd,Nat.reduceLeDiff,reduceIte,reduceCtorEq,Nat.reduceBEq,e0,e3,e4,e5,h10,h11,i64,boxO,zeroO,arrO,reEl,Re.cells_eq re,iD,bD,e6,h59,h60]
    refine callC_give (join_ok [x,restR re.mode x j]) (fun s'=>rfl) rfl (by simp [refsV,refsV.go,reV_eq,i64,bV,reEl]) ?_
    simp only[zW,Nat.reduceShiftRight,Nat.reduceMod,Nat.reduceLT,Nat.reduceMul,Nat.reduceSub,Int.reduceToNat,Int.reduceNeg,Int.reduceLT,Int.reduceLE,Int.reduceEq,Nat.reduceEqDiff,Nat.reduceAdd,Nat.reduceLeDiff,reduceIte,reduceCtorEq,Nat.reduceBEq,e0,e3,e4,e5,h10,h11,i64,boxO,zeroO,arrO,reEl,Re.cells_eq re,iD,bD,e6,h59,h60]
    refine callC_pure (repeat_ok (joinR [x,restR re.mode x j]) 1 re.mode) (by simp [refsV,refsV.go,reV_eq,i64,bV,reEl]) (by simp [refsV,refsV.go,reV_eq,i64,bV,reEl]) ?_
    simp only[zW,Nat.reduceShiftRight,Nat.reduceMod,Nat.reduceLT,Nat.reduceMul,Nat.reduceSub,Int.reduceToNat,Int.reduceNeg,Int.reduceLT,Int.reduceLE,Int.reduceEq,Nat.reduceEqDiff,Nat.reduceAdd,Nat.reduceLeDiff,reduceIte,reduceCtorEq,Nat.reduceBEq,e0,e3,e4,e5,h10,h11,i64,boxO,zeroO,arrO,reEl,Re.cells_eq re,iD,bD,e6,h59,h60,wj]
    refine⟨(re.mx - re.mn - 1).toNat - (j + 1),_,_,by omega,Cln.refl,j + 1,rfl,by omega,?_,?_,?_,?_,?_,?_,?_,rfl⟩ <;> (try simp only[zU,Nat.reduceBEq,Nat.reduceShiftRight,Nat.reduceMod,Nat.reduceEqDiff,reduceIte])
    ·exact h59
    ·simpa [reEl,Re.cells_eq re,iD,bD] using e0
    ·exact e3
    ·exact e4
    ·exact e5
    ·exact e6
   ·have hje:j=(re.mx - re.mn - 1).toNat:=by omega
    subst hje
    have hlt':¬((re.mx - re.mn - 1).toNat:Int) < re.mx - re.mn - 1:=by omega
    simp only[zW,Nat.reduceShiftRight,Nat.reduceMod,Nat.reduceLT,Nat.reduceMul,Nat.reduceSub,Int.reduceToNat,Int.reduceNeg,Int.reduceLT,Int.reduceLE,Int.reduceEq,Nat.reduceEqDiff,Nat.reduceAdd,Nat.reduceLeDiff,reduceIte,reduceCtorEq,Nat.reduceBEq,e0,e3,e4,e5,h10,h11,i64,boxO,zeroO,arrO,reEl,Re.cells_eq re,iD,bD,e6,h59,h60,hlt']
    refine⟨fun y hy=>by rw[List.mem_singleton.1 hy]; simp [Re.cells_len],⟨by simp,by omega⟩,?_⟩
    refine call_join (id:=2) (g:=(g + 1)) (l:=(List.replicate re.mn.toNat x++[restR re.mode x (re.mx - re.mn - 1).toNat])) (by simp [arrO]) (by simp) ?_
    simp only[zW,Nat.reduceShiftRight,Nat.reduceMod,Nat.reduceLT,Nat.reduceMul,Nat.reduceSub,Int.reduceToNat,Int.reduceNeg,Int.reduceLT,Int.reduceLE,Int.reduceEq,Nat.reduceEqDiff,Nat.reduceAdd,Nat.reduceLeDiff,reduceIte,reduceCtorEq,Nat.reduceBEq,e0,e3,e4,e5,h10,h11,i64,boxO,zeroO,arrO,reEl,Re.cells_eq re,iD,bD,killO,kill1]
    all_goals first | exact⟨rfl,rfl⟩ | exact⟨rfl,trivial⟩ | rfl | trivial | (rw[reV_eq]; rfl)
  ·rw[show unrollR re x=joinR (List.replicate re.mn.toNat x) by simp [unrollR,hm1,hm2]]
   simp only[zW,Nat.reduceShiftRight,Nat.reduceMod,Nat.reduceLT,Nat.reduceMul,Nat.reduceSub,Int.reduceToNat,Int.reduceNeg,Int.reduceLT,Int.reduceLE,Int.reduceEq,Nat.reduceEqDiff,Nat.reduceAdd,Nat.reduceLeDiff,reduceIte,reduceCtorEq,Nat.reduceBEq,e0,e3,e4,e5,h10,h11,i64,boxO,zeroO,arrO,reEl,Re.cells_eq re,iD,bD,hlt',hm1]
   refine draw_c mix [] [] (by rfl) ?_
   simp only[zW,Nat.reduceShiftRight,Nat.reduceMod,Nat.reduceLT,Nat.reduceMul,Nat.reduceSub,Int.reduceToNat,Int.reduceNeg,Int.reduceLT,Int.reduceLE,Int.reduceEq,Nat.reduceEqDiff,Nat.reduceAdd,Nat.reduceLeDiff,reduceIte,reduceCtorEq,Nat.reduceBEq,e0,e3,e4,e5,h10,h11,i64,boxO,zeroO,arrO,reEl,Re.cells_eq re,iD,bD,hm1,hm2]
   refine call_join (id:=2) (g:=g) (l:=(List.replicate re.mn.toNat x)) (by simp [arrO]) (by simp) ?_
   simp only[zW,Nat.reduceShiftRight,Nat.reduceMod,Nat.reduceLT,Nat.reduceMul,Nat.reduceSub,Int.reduceToNat,Int.reduceNeg,Int.reduceLT,Int.reduceLE,Int.reduceEq,Nat.reduceEqDiff,Nat.reduceAdd,Nat.reduceLeDiff,reduceIte,reduceCtorEq,Nat.reduceBEq,e0,e3,e4,e5,h10,h11,i64,boxO,zeroO,arrO,reEl,Re.cells_eq re,iD,bD,killO,kill1]
   all_goals first | exact⟨rfl,rfl⟩ | exact⟨rfl,trivial⟩ | rfl | trivial | (rw[reV_eq]; rfl)
end Go.Proofs.Ytffeafbdcakfbaa
