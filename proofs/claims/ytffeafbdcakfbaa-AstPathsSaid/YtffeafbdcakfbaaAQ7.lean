/- A part of the proof (F14). -/
import Derived.Test.YtffeafbdcakfbaaAQ3
set_option linter.unusedSimpArgs false
set_option linter.unusedVariables false
set_option maxRecDepth 100000
set_option maxHeartbeats 80000000
set_option linter.unusedSimpArgs false
set_option linter.unusedVariables false
namespace Go.Proofs.Ytffeafbdcakfbaa
open Go.VL Go.Proofs.Try
def LensOK (re:Re):Prop:=callWp prog 74 [reEl re,.rf 0 0 0 0] [cellO 74] fun v s=>v=.tu [i64 re.lens.1,i64 re.lens.2]∧s=[cellO 74]
theorem lens_cat (re:Re) (ih:∀k∈re.kids,k.fine=true→LensOK k) (hs:re.fine=true) (o2:re.op=2):LensOK re:=by
 obtain⟨hset1,hlen,hfk⟩:=Re.fine_spec hs
 have hle:re.lens=catL (re.kids.map Re.lens):=by rw[Re.lens_eq,o2]; rfl
 unfold LensOK
 rw[hle]
 refine fn_ok func74 rfl ntmps74 results74 rfl 1 27679123311429976059 (by simp) (by simp) ?_
 simp only[zW,Nat.reduceShiftRight,Nat.reduceMod,Nat.reduceLT,Nat.reduceMul,Nat.reduceSub,Int.reduceToNat,Int.reduceNeg,Int.reduceLT,Int.reduceLE,Int.reduceEq,Nat.reduceEqDiff,Nat.reduceAdd,Nat.reduceLeDiff,reduceIte,reduceCtorEq,Nat.reduceBEq,i64,reEl,Re.cells_eq re,iD,bD,o2,cellO]
 refine loop_rule (fun n e s=>∃i:Nat,n=re.kids.length - i∧i≤re.kids.length∧e 0=reEl re∧e 1=.rf 0 0 0 0∧e 5=i64 (catL ((re.kids.take i).map Re.lens)).1∧e 6=i64 (catL ((re.kids.take i).map Re.lens)).2∧e 29=i64 re.kids.length∧e 30=i64 i∧s=[cellO 74])
  ⟨_,_,_,Cln.refl,0,rfl,by omega,by simp [reEl,Re.cells_eq re,iD,bD,o2]; rfl,rfl,rfl,rfl,rfl,rfl,rfl⟩ ?_
 rintro n e s ⟨i,rfl,hi,h0,h1,h5,h6,h29,h30,rfl⟩
 rcases Nat.lt_or_ge i re.kids.length with hlt | hge
 ·obtain⟨k,hk⟩:∃k,re.kids[i]?=some k:=⟨_,List.getElem?_eq_getElem hlt⟩
  have hm:=List.mem_of_getElem? hk
  have hks:=hfk k hm
  simp only[zW,Nat.reduceShiftRight,Nat.reduceMod,Nat.reduceLT,Nat.reduceMul,Nat.reduceSub,Int.reduceToNat,Int.reduceNeg,Int.reduceLT,Int.reduceLE,Int.reduceEq,Nat.reduceEqDiff,Nat.reduceAdd,Nat.reduceLeDiff,reduceIte,reduceCtorEq,Nat.reduceBEq,h0,h1,h5,h6,h29,h30,i64,hlt,cellO]
  refine draw_c mix [] [(0,[0],[]),(7,[0],[0])] (by rfl) ?_
  simp only[zW,Nat.reduceShiftRight,Nat.reduceMod,Nat.reduceLT,Nat.reduceMul,Nat.reduceSub,Int.reduceToNat,Int.reduceNeg,Int.reduceLT,Int.reduceLE,Int.reduceEq,Nat.reduceEqDiff,Nat.reduceAdd,Nat.reduceLeDiff,reduceIte,reduceCtorEq,Nat.reduceBEq,h0,h1,h5,h6,h29,h30,i64,hlt,hk,reEl,Re.cells_eq re,iD,bD]
  refine callF_one (ih k hm hks) rfl rfl rfl rfl rfl rfl ?_
  simp only[zW,Nat.reduceShiftRight,Nat.reduceMod,Nat.reduceLT,Nat.reduceMul,Nat.reduceSub,Int.reduceToNat,Int.reduceNeg,Int.reduceLT,Int.reduceLE,Int.reduceEq,Nat.reduceEqDiff,Nat.reduceAdd,Nat.reduceLeDiff,reduceIte,reduceCtorEq,Nat.reduceBEq,h0,h1,h5,h6,h29,h30,i64,cellO,renO]
  refine call_pure (plus_ok _ _) (by simp [refsV,refsV.go,reV_eq,i64,bV,reEl]) (by simp [refsV,refsV.go,reV_eq,i64,bV,reEl]) ?_
  simp only[zW,Nat.reduceShiftRight,Nat.reduceMod,Nat.reduceLT,Nat.reduceMul,Nat.reduceSub,Int.reduceToNat,Int.reduceNeg,Int.reduceLT,Int.reduceLE,Int.reduceEq,Nat.reduceEqDiff,Nat.reduceAdd,Nat.reduceLeDiff,reduceIte,reduceCtorEq,Nat.reduceBEq,h0,h1,h5,h6,h29,h30,i64,cellO]
  refine call_pure (plus_ok _ _) (by simp [refsV,refsV.go,reV_eq,i64,bV,reEl]) (by simp [refsV,refsV.go,reV_eq,i64,bV,reEl]) ?_
  simp only[zW,Nat.reduceShiftRight,Nat.reduceMod,Nat.reduceLT,Nat.reduceMul,Nat.reduceSub,Int.reduceToNat,Int.reduceNeg,Int.reduceLT,Int.reduceLE,Int.reduceEq,Nat.reduceEqDiff,Nat.reduceAdd,Nat.reduceLeDiff,reduceIte,reduceCtorEq,Nat.reduceBEq,h0,h1,h5,h6,h29,h30,i64,cellO]
  have htk:(re.kids.take (i + 1)).map Re.lens=(re.kids.take i).map Re.lens++[k.lens]:=by rw[take_get hk]; simp
  refine⟨re.kids.length - (i + 1),_,_,by omega,Cln.refl,i + 1,rfl,hlt,?_,?_,?_,?_,?_,?_,rfl⟩ <;> simp only[zU,Nat.reduceBEq,Nat.reduceShiftRight,Nat.reduceMod,Nat.reduceEqDiff,reduceIte]
  ·simpa [reEl,Re.cells_eq re,iD,bD] using h0
  ·exact h1
  ·rw[htk,catL_snoc]
  ·rw[htk,catL_snoc]
  ·exact h29
  ·rw[w64 _ (by omega)]; rfl
 ·have hie:i=re.kids.length:=by omega
  subst hie
  rw[List.take_length] at h5 h6
  simp only[zW,Nat.reduceShiftRight,Nat.reduceMod,Nat.reduceLT,Nat.reduceMul,Nat.reduceSub,Int.reduceToNat,Int.reduceNeg,Int.reduceLT,Int.reduceLE,Int.reduceEq,Nat.reduceEqDiff,Nat.reduceAdd,Nat.reduceLeDiff,reduceIte,reduceCtorEq,Nat.reduceBEq,h0,h1,h5,h6,h29,h30,i64,cellO,Nat.lt_irrefl]
  all_goals first | exact⟨rfl,rfl⟩ | exact⟨rfl,trivial⟩ | rfl | trivial | (rw[reV_eq]; rfl)
theorem altL_take {l:List Re} {i:Nat} {k:Re} (hk:l[i]?=some k):altL ((l.take (i + 1)).map Re.lens)=altF (if i=0 then k.lens else altL ((l.take i).map Re.lens)) k.lens:=by
 rw[take_get hk]
 split
 ·rename_i h; subst h; simp [altL_one]
 ·rename_i h
  rw[List.map_append,List.map_cons,List.map_nil,altL_snoc]
  have:=(List.getElem?_eq_some_iff.1 hk).1
  intro hn
  have:((l.take i).map Re.lens).length=0:=by rw[hn]; rfl
  simp at this
  rcases this with h' | h'
  ·exact h h'
  ·subst h'; simp at hk
theorem lens_alt (re:Re) (ih:∀k∈re.kids,k.fine=true→LensOK k) (hs:re.fine=true) (o:re.op=3∨re.op=10∨re.op=4∨re.op=5∨re.op=9):LensOK re:=by
 obtain⟨hset1,hlen,hfk⟩:=Re.fine_spec hs
 have hle:re.lens=if re.op=4 then (ltimes (altL (re.kids.map Re.lens)).1 re.mn,ltimes (altL (re.kids.map Re.lens)).2 re.mx) else altL (re.kids.map Re.lens):=by
  rw[Re.lens_eq]; rcases o with o | o | o | o | o <;> rw[o] <;> rfl
 unfold LensOK
 rw[hle]
 rcases o with o2 | o2 | o2 | o2 | o2
 all_goals
  refine fn_ok func74 rfl ntmps74 results74 rfl 1 27679123311429976059 (by simp) (by simp) ?_
  simp only[zW,Nat.reduceShiftRight,Nat.reduceMod,Nat.reduceLT,Nat.reduceMul,Nat.reduceSub,Int.reduceToNat,Int.reduceNeg,Int.reduceLT,Int.reduceLE,Int.reduceEq,Nat.reduceEqDiff,Nat.reduceAdd,Nat.reduceLeDiff,reduceIte,reduceCtorEq,Nat.reduceBEq,i64,reEl,Re.cells_eq re,iD,bD,o2,cellO]
  refine loop_rule (fun n e s=>∃i:Nat,n=re.kids.length - i∧i≤re.kids.length∧e 0=reEl re∧e 1=.rf 0 0 0 0∧e 10=i64 (altL ((re.kids.take i).map Re.lens)).1∧e 11=i64 (altL ((re.kids.take i).map Re.lens)).2∧e 63=i64 re.kids.length∧e 64=i64 i∧s=[cellO 74])
   ⟨_,_,_,Cln.refl,0,rfl,by omega,by simp [reEl,Re.cells_eq re,iD,bD,o2]; rfl,rfl,rfl,rfl,rfl,rfl,rfl⟩ ?_
  rintro n e s ⟨i,rfl,hi,h0,h1,h10,h11,h63,h64,rfl⟩
  rcases Nat.lt_or_ge i re.kids.length with hlt | hge
  ·obtain⟨k,hk⟩:∃k,re.kids[i]?=some k:=⟨_,List.getElem?_eq_getElem hlt⟩
   have hm:=List.mem_of_getElem? hk
   have hks:=hfk k hm
   have hal:=altL_take hk
   simp only[zW,Nat.reduceShiftRight,Nat.reduceMod,Nat.reduceLT,Nat.reduceMul,Nat.reduceSub,Int.reduceToNat,Int.reduceNeg,Int.reduceLT,Int.reduceLE,Int.reduceEq,Nat.reduceEqDiff,Nat.reduceAdd,Nat.reduceLeDiff,reduceIte,reduceCtorEq,Nat.reduceBEq,h0,h1,h10,h11,h63,h64,i64,hlt,cellO]
   refine draw_c mix [] [(0,[0],[]),(7,[0],[0])] (by rfl) ?_
   simp only[zW,Nat.reduceShiftRight,Nat.reduceMod,Nat.reduceLT,Nat.reduceMul,Nat.reduceSub,Int.reduceToNat,Int.reduceNeg,Int.reduceLT,Int.reduceLE,Int.reduceEq,Nat.reduceEqDiff,Nat.reduceAdd,Nat.reduceLeDiff,reduceIte,reduceCtorEq,Nat.reduceBEq,h0,h1,h10,h11,h63,h64,i64,hlt,hk,reEl,Re.cells_eq re,iD,bD]
   refine callF_one (ih k hm hks) rfl rfl rfl rfl rfl rfl ?_
   by_cases hi0:(i:Int)=0
   ·have hi0':i=0:=by omega
    rw[if_pos hi0'] at hal
    simp only[zW,Nat.reduceShiftRight,Nat.reduceMod,Nat.reduceLT,Nat.reduceMul,Nat.reduceSub,Int.reduceToNat,Int.reduceNeg,Int.reduceLT,Int.reduceLE,Int.reduceEq,Nat.reduceEqDiff,Nat.reduceAdd,Nat.reduceLeDiff,reduceIte,reduceCtorEq,Nat.reduceBEq,h0,h1,h10,h11,h63,h64,i64,cellO,hi0]
    refine call_pure (greater_ok _ _) (by simp [refsV,refsV.go,reV_eq,i64,bV,reEl]) (by simp [refsV,refsV.go,reV_eq,i64,bV,reEl]) ?_
    simp only[zW,Nat.reduceShiftRight,Nat.reduceMod,Nat.reduceLT,Nat.reduceMul,Nat.reduceSub,Int.reduceToNat,Int.reduceNeg,Int.reduceLT,Int.reduceLE,Int.reduceEq,Nat.reduceEqDiff,Nat.reduceAdd,Nat.reduceLeDiff,reduceIte,reduceCtorEq,Nat.reduceBEq,h0,h1,h10,h11,h63,h64,i64,cellO,hi0]
    refine⟨re.kids.length - (i + 1),_,_,by omega,Cln.refl,i + 1,rfl,hlt,?_,?_,?_,?_,?_,?_,rfl⟩ <;> simp only[zU,Nat.reduceBEq,Nat.reduceShiftRight,Nat.reduceMod,Nat.reduceEqDiff,reduceIte]
    ·simpa [reEl,Re.cells_eq re,iD,bD,o2] using h0
    ·exact h1
    ·rw[hal]; rfl
    ·rw[hal]; rfl
    ·exact h63
    ·rw[w64 _ (by omega),hi0']; rfl
   ·rw[if_neg (by omega)] at hal
    simp only[zW,Nat.reduceShiftRight,Nat.reduceMod,Nat.reduceLT,Nat.reduceMul,Nat.reduceSub,Int.reduceToNat,Int.reduceNeg,Int.reduceLT,Int.reduceLE,Int.reduceEq,Nat.reduceEqDiff,Nat.reduceAdd,Nat.reduceLeDiff,reduceIte,reduceCtorEq,Nat.reduceBEq,h0,h1,h10,h11,h63,h64,i64,cellO,hi0]
    refine call_pure (greater_ok _ _) (by simp [refsV,refsV.go,reV_eq,i64,bV,reEl]) (by simp [refsV,refsV.go,reV_eq,i64,bV,reEl]) ?_
    simp only[zW,Nat.reduceShiftRight,Nat.reduceMod,Nat.reduceLT,Nat.reduceMul,Nat.reduceSub,Int.reduceToNat,Int.reduceNeg,Int.reduceLT,Int.reduceLE,Int.reduceEq,Nat.reduceEqDiff,Nat.reduceAdd,Nat.reduceLeDiff,reduceIte,reduceCtorEq,Nat.reduceBEq,h0,h1,h10,h11,h63,h64,i64,cellO,hi0]
    refine⟨re.kids.length - (i + 1),_,_,by omega,Cln.refl,i + 1,rfl,hlt,?_,?_,?_,?_,?_,?_,rfl⟩ <;> simp only[zU,Nat.reduceBEq,Nat.reduceShiftRight,Nat.reduceMod,Nat.reduceEqDiff,reduceIte]
    ·simpa [reEl,Re.cells_eq re,iD,bD,o2] using h0
    ·exact h1
    ·rw[hal]; rfl
    ·rw[hal]; rfl
    ·exact h63
    ·rw[w64 _ (by omega)]; rfl
  ·have hie:i=re.kids.length:=by omega
   subst hie
   rw[List.take_length] at h10 h11
   simp only[zW,Nat.reduceShiftRight,Nat.reduceMod,Nat.reduceLT,Nat.reduceMul,Nat.reduceSub,Int.reduceToNat,Int.reduceNeg,Int.reduceLT,Int.reduceLE,Int.reduceEq,Nat.reduceEqDiff,Nat.reduceAdd,Nat.reduceLeDiff,reduceIte,reduceCtorEq,Nat.reduceBEq,h0,h1,h10,h11,h63,h64,i64,cellO,Nat.lt_irrefl,reEl,Re.cells_eq re,iD,bD,o2]
   try
    refine draw_c mix [] [] (by rfl) ?_
    simp only[zW,Nat.reduceShiftRight,Nat.reduceMod,Nat.reduceLT,Nat.reduceMul,Nat.reduceSub,Int.reduceToNat,Int.reduceNeg,Int.reduceLT,Int.reduceLE,Int.reduceEq,Nat.reduceEqDiff,Nat.reduceAdd,Nat.reduceLeDiff,reduceIte,reduceCtorEq,Nat.reduceBEq,h0,h1,h10,h11,i64,reEl,Re.cells_eq re,iD,bD,o2]
    refine callC_pure (times_ok _ _) (by simp [refsV,refsV.go,reV_eq,i64,bV,reEl]) (by simp [refsV,refsV.go,reV_eq,i64,bV,reEl]) ?_
    simp only[zW,Nat.reduceShiftRight,Nat.reduceMod,Nat.reduceLT,Nat.reduceMul,Nat.reduceSub,Int.reduceToNat,Int.reduceNeg,Int.reduceLT,Int.reduceLE,Int.reduceEq,Nat.reduceEqDiff,Nat.reduceAdd,Nat.reduceLeDiff,reduceIte,reduceCtorEq,Nat.reduceBEq,h0,h1,h10,h11,i64,reEl,Re.cells_eq re,iD,bD,o2]
    refine callC_pure (times_ok _ _) (by simp [refsV,refsV.go,reV_eq,i64,bV,reEl]) (by simp [refsV,refsV.go,reV_eq,i64,bV,reEl]) ?_
    simp only[zW,Nat.reduceShiftRight,Nat.reduceMod,Nat.reduceLT,Nat.reduceMul,Nat.reduceSub,Int.reduceToNat,Int.reduceNeg,Int.reduceLT,Int.reduceLE,Int.reduceEq,Nat.reduceEqDiff,Nat.reduceAdd,Nat.reduceLeDiff,reduceIte,reduceCtorEq,Nat.reduceBEq,h0,h1,h10,h11,i64,reEl,Re.cells_eq re,iD,bD,o2]
   all_goals first | exact⟨rfl,rfl⟩ | exact⟨rfl,trivial⟩ | rfl | trivial | (rw[reV_eq]; rfl)
theorem lens_leaf (re:Re) (o1:¬re.op=2) (o2:¬re.op=3) (o3:¬re.op=10) (o4:¬re.op=4) (o5:¬re.op=5) (o6:¬re.op=9):LensOK re:=by
 unfold LensOK
 by_cases p1:re.op=1
 ·have hle:re.lens=(1,1):=by rw[Re.lens_eq,p1]; rfl
  rw[hle]
  refine fn_ok func74 rfl ntmps74 results74 rfl 1 27679123311429976059 (by simp) (by simp) ?_
  simp only[zW,Nat.reduceShiftRight,Nat.reduceMod,Nat.reduceLT,Nat.reduceMul,Nat.reduceSub,Int.reduceToNat,Int.reduceNeg,Int.reduceLT,Int.reduceLE,Int.reduceEq,Nat.reduceEqDiff,Nat.reduceAdd,Nat.reduceLeDiff,reduceIte,reduceCtorEq,Nat.reduceBEq,i64,reEl,Re.cells_eq re,iD,bD,p1,cellO]
  all_goals first | exact⟨rfl,rfl⟩ | exact⟨rfl,trivial⟩ | rfl | trivial | (rw[reV_eq]; rfl)
 by_cases p6:re.op=6
 ·have hle:re.lens=(0,-1):=by rw[Re.lens_eq,p6]; rfl
  rw[hle]
  refine fn_ok func74 rfl ntmps74 results74 rfl 1 27679123311429976059 (by simp) (by simp) ?_
  simp only[zW,Nat.reduceShiftRight,Nat.reduceMod,Nat.reduceLT,Nat.reduceMul,Nat.reduceSub,Int.reduceToNat,Int.reduceNeg,Int.reduceLT,Int.reduceLE,Int.reduceEq,Nat.reduceEqDiff,Nat.reduceAdd,Nat.reduceLeDiff,reduceIte,reduceCtorEq,Nat.reduceBEq,i64,reEl,Re.cells_eq re,iD,bD,p6,cellO]
  all_goals first | exact⟨rfl,rfl⟩ | exact⟨rfl,trivial⟩ | rfl | trivial | (rw[reV_eq]; rfl)
 have hle:re.lens=(0,0):=by rw[Re.lens_eq]; simp [lensOp,o1,o2,o3,o4,o5,o6,p1,p6]
 rw[hle]
 refine fn_ok func74 rfl ntmps74 results74 rfl 1 27679123311429976059 (by simp) (by simp) ?_
 simp only[zW,Nat.reduceShiftRight,Nat.reduceMod,Nat.reduceLT,Nat.reduceMul,Nat.reduceSub,Int.reduceToNat,Int.reduceNeg,Int.reduceLT,Int.reduceLE,Int.reduceEq,Nat.reduceEqDiff,Nat.reduceAdd,Nat.reduceLeDiff,reduceIte,reduceCtorEq,Nat.reduceBEq,i64,reEl,Re.cells_eq re,iD,bD,o1,o2,o3,o4,o5,o6,p1,p6,cellO]
 all_goals first | exact⟨rfl,rfl⟩ | exact⟨rfl,trivial⟩ | rfl | trivial | (rw[reV_eq]; rfl)
theorem lens_rec (re:Re) (hs:re.fine=true):LensOK re:=by
 revert hs
 refine Re.ind (Q:=fun re=>re.fine=true→LensOK re) (fun re ih hs=>?_) re
 by_cases o2:re.op=2
 ·exact lens_cat re ih hs o2
 by_cases o:re.op=3∨re.op=10∨re.op=4∨re.op=5∨re.op=9
 ·exact lens_alt re ih hs o
 ·exact lens_leaf re o2 (fun h=>o (.inl h)) (fun h=>o (.inr (.inl h))) (fun h=>o (.inr (.inr (.inl h)))) (fun h=>o (.inr (.inr (.inr (.inl h))))) (fun h=>o (.inr (.inr (.inr (.inr h)))))
theorem lengths_ok (re:Re) (hs:re.fine=true):PureOK prog 40 [reV re] (.tu [i64 re.lens.1,i64 re.lens.2]):=by
 refine fn_ok func40 rfl ntmps40 results40 rfl 0 31 (by simp) (by simp) ?_
 simp only[zW,Nat.reduceShiftRight,Nat.reduceMod,Nat.reduceLT,Nat.reduceMul,Nat.reduceSub,Int.reduceToNat,Int.reduceNeg,Int.reduceLT,Int.reduceLE,Int.reduceEq,Nat.reduceEqDiff,Nat.reduceAdd,Nat.reduceLeDiff,reduceIte,reduceCtorEq,Nat.reduceBEq,i64,reV_eq re,iD,bD]
 refine call_give [0] rfl ?_
 refine call_at (r':=.tu [i64 re.lens.1,i64 re.lens.2]) 1 (lens_rec re hs) (by rw[reEl,Re.cells_eq]; rfl) rfl rfl rfl rfl ?_
 simp only[zW,Nat.reduceShiftRight,Nat.reduceMod,Nat.reduceLT,Nat.reduceMul,Nat.reduceSub,Int.reduceToNat,Int.reduceNeg,Int.reduceLT,Int.reduceLE,Int.reduceEq,Nat.reduceEqDiff,Nat.reduceAdd,Nat.reduceLeDiff,reduceIte,reduceCtorEq,Nat.reduceBEq,i64,killO,kill1,renO,renV,renV.go,cellO]
 all_goals first | exact⟨rfl,rfl⟩ | exact⟨rfl,trivial⟩ | rfl | trivial | (rw[reV_eq]; rfl)
end Go.Proofs.Ytffeafbdcakfbaa
