/- A part of the proof (F32 F33). -/
import Derived.Test.YtpppfpaalcbggaaMB3
set_option linter.unusedSimpArgs false
set_option linter.unusedVariables false
set_option maxRecDepth 100000
set_option maxHeartbeats 80000000
set_option linter.unusedSimpArgs false
set_option linter.unusedVariables false
namespace Go.Proofs.Ytpppfpaalcbggaa
open Go.VL Go.Proofs.Try
mutual
def Re.usesA:Re→Int→Int
 | .mk op _ kids _ _ mode _ _,a=>Re.usesAL kids (bitV .or .i64 a (usesN op mode (Re.anulL kids)))
def Re.usesAL:List Re→Int→Int
 | [],a=>a
 | k::l,a=>Re.usesAL l (k.usesA a)
end
theorem Re.usesA_eq (re:Re) (a:Int):re.usesA a=Re.usesAL re.kids (bitV .or .i64 a (usesN re.op re.mode (re.kids.map Re.anul))):=by
 cases re; simp [Re.usesA,Re.anulL_eq,Re.op,Re.mode,Re.kids]
theorem Re.usesAL_snoc:∀(l:List Re) (k:Re) (a:Int),Re.usesAL (l++[k]) a=k.usesA (Re.usesAL l a)
 | [],k,a=>by simp [Re.usesAL]
 | x::l,k,a=>by simp only[List.cons_append,Re.usesAL,Re.usesAL_snoc l k]
def UsesOK (re:Re):Prop:=∀c:Int,callWp prog 18 [reEl re,.rf 0 0 0 0,.rf 1 0 0 0] [cntO c,cell2O 18] fun v s=>v=.tu []∧s=[cntO (re.usesA c),cell2O 18]
theorem uses_rec (re:Re) (hs:re.fine=true):UsesOK re:=by
 revert hs
 refine Re.ind (Q:=fun re=>re.fine=true→UsesOK re) (fun re ih hs=>?_) re
 intro c
 obtain⟨hset1,hlen,hfk⟩:=Re.fine_spec hs
 have huo:=usesOf_ok re hs
 rw[reEl,Re.cells_eq re] at huo
 simp only[iD,bD,i64] at huo
 rw[Re.usesA_eq]
 generalize usesN re.op re.mode (re.kids.map Re.anul)=u at *
 refine fn_ok func18 rfl ntmps18 results18 rfl 2 24599 (by simp) (by simp) ?_
 simp only[zW,Nat.reduceShiftRight,Nat.reduceMod,Nat.reduceLT,Nat.reduceMul,Nat.reduceSub,Int.reduceToNat,Int.reduceNeg,Int.reduceLT,Int.reduceLE,Int.reduceEq,Nat.reduceEqDiff,Nat.reduceAdd,Nat.reduceLeDiff,reduceIte,reduceCtorEq,Nat.reduceBEq,i64,cntO,cell2O,reEl,Re.cells_eq re,iD,bD]
 refine draw_c mix [4] [] (by rfl) ?_
 simp only[zW,Nat.reduceShiftRight,Nat.reduceMod,Nat.reduceLT,Nat.reduceMul,Nat.reduceSub,Int.reduceToNat,Int.reduceNeg,Int.reduceLT,Int.reduceLE,Int.reduceEq,Nat.reduceEqDiff,Nat.reduceAdd,Nat.reduceLeDiff,reduceIte,reduceCtorEq,Nat.reduceBEq,i64,cntO,cell2O,reEl,Re.cells_eq re,iD,bD]
 refine callC_pure huo rfl rfl ?_
 simp only[zW,Nat.reduceShiftRight,Nat.reduceMod,Nat.reduceLT,Nat.reduceMul,Nat.reduceSub,Int.reduceToNat,Int.reduceNeg,Int.reduceLT,Int.reduceLE,Int.reduceEq,Nat.reduceEqDiff,Nat.reduceAdd,Nat.reduceLeDiff,reduceIte,reduceCtorEq,Nat.reduceBEq,i64,cntO,cell2O,reEl,Re.cells_eq re,iD,bD]
 refine loop_rule (fun n e s=>∃i:Nat,n=re.kids.length - i∧i≤re.kids.length∧e 0=reEl re∧e 1=.rf 0 0 0 0∧e 2=.rf 1 0 0 0∧e 13=i64 re.kids.length∧e 14=i64 i∧s=[cntO (Re.usesAL (re.kids.take i) (bitV .or .i64 c u)),cell2O 18])
  ⟨_,_,_,Cln.refl,0,rfl,by omega,by simp [reEl,Re.cells_eq re,iD,bD]; rfl,rfl,rfl,rfl,rfl,by simp [Re.usesAL,cntO,cell2O,i64]⟩ ?_
 rintro n e s ⟨i,rfl,hi,h0,h1,h2,h11,h12,rfl⟩
 rcases Nat.lt_or_ge i re.kids.length with hlt | hge
 ·obtain⟨k,hk⟩:∃k,re.kids[i]?=some k:=⟨_,List.getElem?_eq_getElem hlt⟩
  have hm:=List.mem_of_getElem? hk
  have hk0:=ih k hm (hfk k hm) (Re.usesAL (re.kids.take i) (bitV .or .i64 c u))
  simp only[zW,Nat.reduceShiftRight,Nat.reduceMod,Nat.reduceLT,Nat.reduceMul,Nat.reduceSub,Int.reduceToNat,Int.reduceNeg,Int.reduceLT,Int.reduceLE,Int.reduceEq,Nat.reduceEqDiff,Nat.reduceAdd,Nat.reduceLeDiff,reduceIte,reduceCtorEq,Nat.reduceBEq,i64,cntO,cell2O,reEl,Re.cells_eq re,iD,bD,h0,h1,h2,h11,h12,hlt]
  refine draw_c mix [] [(0,[1],[]),(7,[0,1],[0,1])] (by rfl) ?_
  simp only[zW,Nat.reduceShiftRight,Nat.reduceMod,Nat.reduceLT,Nat.reduceMul,Nat.reduceSub,Int.reduceToNat,Int.reduceNeg,Int.reduceLT,Int.reduceLE,Int.reduceEq,Nat.reduceEqDiff,Nat.reduceAdd,Nat.reduceLeDiff,reduceIte,reduceCtorEq,Nat.reduceBEq,i64,cntO,cell2O,reEl,Re.cells_eq re,iD,bD,h0,h1,h2,h11,h12,hlt,hk]
  refine callF_two hk0 (by simp [renV,reEl]) (by simp [refsV,refsV.go,reEl]) rfl rfl rfl rfl rfl rfl rfl ?_
  simp only[zW,Nat.reduceShiftRight,Nat.reduceMod,Nat.reduceLT,Nat.reduceMul,Nat.reduceSub,Int.reduceToNat,Int.reduceNeg,Int.reduceLT,Int.reduceLE,Int.reduceEq,Nat.reduceEqDiff,Nat.reduceAdd,Nat.reduceLeDiff,reduceIte,reduceCtorEq,Nat.reduceBEq,i64,cntO,cell2O,reEl,Re.cells_eq re,iD,bD,h0,h1,h2,h11,h12]
  refine⟨re.kids.length - (i + 1),_,_,by omega,Cln.refl,i + 1,rfl,hlt,?_,?_,?_,?_,?_,?_⟩ <;> (try simp only[zU,Nat.reduceBEq,Nat.reduceShiftRight,Nat.reduceMod,Nat.reduceEqDiff,reduceIte])
  ·simpa [reEl,Re.cells_eq re,iD,bD] using h0
  ·exact h1
  ·exact h2
  ·exact h11
  ·rw[w64 _ (by omega)]; rfl
  ·rw[take_get hk,Re.usesAL_snoc]
 ·have hie:i=re.kids.length:=by omega
  subst hie
  simp only[zW,Nat.reduceShiftRight,Nat.reduceMod,Nat.reduceLT,Nat.reduceMul,Nat.reduceSub,Int.reduceToNat,Int.reduceNeg,Int.reduceLT,Int.reduceLE,Int.reduceEq,Nat.reduceEqDiff,Nat.reduceAdd,Nat.reduceLeDiff,reduceIte,reduceCtorEq,Nat.reduceBEq,i64,cntO,cell2O,reEl,Re.cells_eq re,iD,bD,h0,h1,h2,h11,h12,Nat.lt_irrefl,List.take_length]
theorem uses_ok (re:Re) (hs:re.fine=true):PureOK prog 8 [reV re] (i64 (re.usesA 0)):=by
 refine fn_ok func8 rfl ntmps8 results8 rfl 0 31 (by simp) (by simp) ?_
 simp only[zW,Nat.reduceShiftRight,Nat.reduceMod,Nat.reduceLT,Nat.reduceMul,Nat.reduceSub,Int.reduceToNat,Int.reduceNeg,Int.reduceLT,Int.reduceLE,Int.reduceEq,Nat.reduceEqDiff,Nat.reduceAdd,Nat.reduceLeDiff,reduceIte,reduceCtorEq,Nat.reduceBEq,i64,reV_eq re,iD,bD]
 refine call_give [0] rfl ?_
 refine call_at2 (r':=.tu []) 1 2 (by decide) (uses_rec re hs 0) (by rw[reEl,Re.cells_eq]; rfl) (by simp [refsV,refsV.go,reEl]) rfl rfl rfl rfl rfl ?_
 simp only[zW,Nat.reduceShiftRight,Nat.reduceMod,Nat.reduceLT,Nat.reduceMul,Nat.reduceSub,Int.reduceToNat,Int.reduceNeg,Int.reduceLT,Int.reduceLE,Int.reduceEq,Nat.reduceEqDiff,Nat.reduceAdd,Nat.reduceLeDiff,reduceIte,reduceCtorEq,Nat.reduceBEq,i64,killO,kill1,renO,renV,renV.go,cntO,cell2O]
 all_goals first | exact⟨rfl,rfl⟩ | exact⟨rfl,trivial⟩ | rfl | trivial | (rw[reV_eq]; rfl)
def usesRN (op mode:Int) (b:Bool):Int :=
 if op=6 then 1 else if op=10 then 2 else if op=7∨op=8 then 4 else if op=9 then 8 else if op=11 then 16 else if op=5 then 64
 else if op=4 then (if b=true then bitV .or .i64 (if mode=2 then 8 else 0) 32 else (if mode=2 then 8 else 0))
 else 0
def headNul:List Re→Bool
 | []=>false
 | k::_=>k.nul
mutual
def Re.usesR:Re→Int
 | .mk op _ kids _ _ mode _ _=>Re.usesRL kids (usesRN op mode (headNul kids))
def Re.usesRL:List Re→Int→Int
 | [],a=>a
 | k::l,a=>Re.usesRL l (bitV .or .i64 a k.usesR)
end
theorem Re.usesR_eq (re:Re):re.usesR=Re.usesRL re.kids (usesRN re.op re.mode (headNul re.kids)):=by
 cases re; simp [Re.usesR,Re.op,Re.mode,Re.kids]
theorem Re.usesRL_snoc:∀(l:List Re) (k:Re) (a:Int),Re.usesRL (l++[k]) a=bitV .or .i64 (Re.usesRL l a) k.usesR
 | [],k,a=>by simp [Re.usesRL]
 | x::l,k,a=>by simp only[List.cons_append,Re.usesRL,Re.usesRL_snoc l k]
theorem refUses_ok (re:Re) (hs:re.size≤1000000000):PureOK prog 33 [reV re] (i64 re.usesR):=by
 revert hs
 refine Re.ind (Q:=fun re=>re.size≤1000000000→PureOK prog 33 [reV re] (i64 re.usesR)) (fun re ih hs=>?_) re
 have hlen:=Re.len_le re.kids
 have hsz:=Re.size_eq re
 rw[Re.usesR_eq]
 have hcase:re.op=6∨re.op=10∨re.op=7∨re.op=8∨re.op=9∨re.op=11∨re.op=5∨re.op=4∨(¬re.op=6∧¬re.op=10∧¬re.op=7∧¬re.op=8∧¬re.op=9∧¬re.op=11∧¬re.op=5∧¬re.op=4):=by omega
 rcases hcase with p | p | p | p | p | p | p | p | p
 case inr.inr.inr.inr.inr.inr.inr.inl =>
  have hb:∀u:Int,(u=usesRN 4 re.mode (headNul re.kids))→u=usesRN re.op re.mode (headNul re.kids):=fun u h=>by rw[p]; exact h
  have h01:(0:Int) < re.kids.length∨re.kids=[]:=by
   cases re.kids with
   | nil=>exact .inr rfl
   | cons k l=>exact .inl (by simp)
  rw[p]
  rcases h01 with hp | hnil
  ·obtain⟨k0,l0,hkl⟩:∃k l,re.kids=k::l:=by
    cases h:re.kids with
    | nil=>rw[h] at hp; simp at hp
    | cons k l=>exact⟨k,l,rfl⟩
   have hk0:re.kids[0]?=some k0:=by rw[hkl]; rfl
   have hm0:k0∈re.kids:=by rw[hkl]; simp
   have hnk:=refNullable_ok k0 (by have:=Re.size_kid hm0; omega)
   have hh:headNul re.kids=k0.nul:=by rw[hkl]; rfl
   rw[hh]
   by_cases hmo:re.mode=2
   all_goals
    cases hkn:k0.nul
    all_goals
     simp only[usesRN,hmo,Int.reduceEq,if_true,if_false,reduceIte,or_true,true_or,or_false,false_or,reduceCtorEq]
     refine fn_ok func33 rfl ntmps33 results33 rfl 0 2143 (by simp) (by simp) ?_
     simp only[zW,Nat.reduceShiftRight,Nat.reduceMod,Nat.reduceLT,Nat.reduceMul,Nat.reduceSub,Int.reduceToNat,Int.reduceNeg,Int.reduceLT,Int.reduceLE,Int.reduceEq,Nat.reduceEqDiff,Nat.reduceAdd,Nat.reduceLeDiff,reduceIte,reduceCtorEq,Nat.reduceBEq,i64,reV_eq re,iD,bD,p,hmo,hp,hk0]
     refine call_pure hnk (by simp [refsV,refsV.go,reV_eq,i64,bV,reEl]) (by simp [refsV,refsV.go,reV_eq,i64,bV,reEl]) ?_
     simp only[zW,Nat.reduceShiftRight,Nat.reduceMod,Nat.reduceLT,Nat.reduceMul,Nat.reduceSub,Int.reduceToNat,Int.reduceNeg,Int.reduceLT,Int.reduceLE,Int.reduceEq,Nat.reduceEqDiff,Nat.reduceAdd,Nat.reduceLeDiff,reduceIte,reduceCtorEq,Nat.reduceBEq,i64,bV,hkn,hmo]
     refine loop_rule (fun n e s=>∃i:Nat,n=re.kids.length - i∧i≤re.kids.length∧e 1=.rf 0 0 0 0∧e 3=i64 (Re.usesRL (re.kids.take i) _)∧e 4=i64 i∧s=[⟨0,true,8,[re.cells.map .d]⟩])
      ⟨_,_,_,Cln.refl,0,rfl,by omega,rfl,rfl,rfl,by first | simp [Re.cells_eq re,iD,bD,p,hmo] | simp [Re.cells_eq re,iD,bD]⟩ ?_
     rintro n e s ⟨i,rfl,hi,h1,h3,h4,rfl⟩
     rcases Nat.lt_or_ge i re.kids.length with hlt | hge
     ·obtain⟨k,hk⟩:∃k,re.kids[i]?=some k:=⟨_,List.getElem?_eq_getElem hlt⟩
      have hm:=List.mem_of_getElem? hk
      have hks:=Re.size_kid hm
      simp only[zW,Nat.reduceShiftRight,Nat.reduceMod,Nat.reduceLT,Nat.reduceMul,Nat.reduceSub,Int.reduceToNat,Int.reduceNeg,Int.reduceLT,Int.reduceLE,Int.reduceEq,Nat.reduceEqDiff,Nat.reduceAdd,Nat.reduceLeDiff,reduceIte,reduceCtorEq,Nat.reduceBEq,i64,Re.cells_eq re,iD,bD,h1,h3,h4,hlt,hk]
      refine call_pure (ih k hm (by omega)) (by simp [refsV,refsV.go,reV_eq,i64,bV,reEl]) (by simp [refsV,refsV.go,reV_eq,i64,bV,reEl]) ?_
      simp only[zW,Nat.reduceShiftRight,Nat.reduceMod,Nat.reduceLT,Nat.reduceMul,Nat.reduceSub,Int.reduceToNat,Int.reduceNeg,Int.reduceLT,Int.reduceLE,Int.reduceEq,Nat.reduceEqDiff,Nat.reduceAdd,Nat.reduceLeDiff,reduceIte,reduceCtorEq,Nat.reduceBEq,i64,Re.cells_eq re,iD,bD,h1,h3,h4]
      refine⟨re.kids.length - (i + 1),_,_,by omega,Cln.refl,i + 1,rfl,hlt,?_,?_,?_,rfl⟩ <;> (try simp only[zU,Nat.reduceBEq,Nat.reduceShiftRight,Nat.reduceMod,Nat.reduceEqDiff,reduceIte])
      ·exact h1
      ·rw[take_get hk,Re.usesRL_snoc]
      ·rw[w64 _ (by omega)]; rfl
     ·have hie:i=re.kids.length:=by omega
      subst hie
      rw[List.take_length] at h3
      simp only[zW,Nat.reduceShiftRight,Nat.reduceMod,Nat.reduceLT,Nat.reduceMul,Nat.reduceSub,Int.reduceToNat,Int.reduceNeg,Int.reduceLT,Int.reduceLE,Int.reduceEq,Nat.reduceEqDiff,Nat.reduceAdd,Nat.reduceLeDiff,reduceIte,reduceCtorEq,Nat.reduceBEq,i64,Re.cells_eq re,iD,bD,h1,h3,h4,Nat.lt_irrefl]
      all_goals first | exact⟨rfl,rfl⟩ | exact⟨rfl,trivial⟩ | rfl | trivial | (rw[reV_eq]; rfl)
  ·rw[show headNul re.kids=false by rw[hnil]; rfl]
   have hn0:¬(0:Int) < re.kids.length:=by rw[hnil]; simp
   by_cases hmo:re.mode=2
   all_goals
    simp only[usesRN,hmo,Int.reduceEq,if_true,if_false,reduceIte,or_true,true_or,or_false,false_or,reduceCtorEq]
    refine fn_ok func33 rfl ntmps33 results33 rfl 0 2143 (by simp) (by simp) ?_
    simp only[zW,Nat.reduceShiftRight,Nat.reduceMod,Nat.reduceLT,Nat.reduceMul,Nat.reduceSub,Int.reduceToNat,Int.reduceNeg,Int.reduceLT,Int.reduceLE,Int.reduceEq,Nat.reduceEqDiff,Nat.reduceAdd,Nat.reduceLeDiff,reduceIte,reduceCtorEq,Nat.reduceBEq,i64,reV_eq re,iD,bD,p,hmo,hn0]
    refine loop_rule (fun n e s=>∃i:Nat,n=re.kids.length - i∧i≤re.kids.length∧e 1=.rf 0 0 0 0∧e 3=i64 (Re.usesRL (re.kids.take i) _)∧e 4=i64 i∧s=[⟨0,true,8,[re.cells.map .d]⟩])
     ⟨_,_,_,Cln.refl,0,rfl,by omega,rfl,rfl,rfl,by first | simp [Re.cells_eq re,iD,bD,p,hmo] | simp [Re.cells_eq re,iD,bD]⟩ ?_
    rintro n e s ⟨i,rfl,hi,h1,h3,h4,rfl⟩
    rcases Nat.lt_or_ge i re.kids.length with hlt | hge
    ·obtain⟨k,hk⟩:∃k,re.kids[i]?=some k:=⟨_,List.getElem?_eq_getElem hlt⟩
     have hm:=List.mem_of_getElem? hk
     have hks:=Re.size_kid hm
     simp only[zW,Nat.reduceShiftRight,Nat.reduceMod,Nat.reduceLT,Nat.reduceMul,Nat.reduceSub,Int.reduceToNat,Int.reduceNeg,Int.reduceLT,Int.reduceLE,Int.reduceEq,Nat.reduceEqDiff,Nat.reduceAdd,Nat.reduceLeDiff,reduceIte,reduceCtorEq,Nat.reduceBEq,i64,Re.cells_eq re,iD,bD,h1,h3,h4,hlt,hk]
     refine call_pure (ih k hm (by omega)) (by simp [refsV,refsV.go,reV_eq,i64,bV,reEl]) (by simp [refsV,refsV.go,reV_eq,i64,bV,reEl]) ?_
     simp only[zW,Nat.reduceShiftRight,Nat.reduceMod,Nat.reduceLT,Nat.reduceMul,Nat.reduceSub,Int.reduceToNat,Int.reduceNeg,Int.reduceLT,Int.reduceLE,Int.reduceEq,Nat.reduceEqDiff,Nat.reduceAdd,Nat.reduceLeDiff,reduceIte,reduceCtorEq,Nat.reduceBEq,i64,Re.cells_eq re,iD,bD,h1,h3,h4]
     refine⟨re.kids.length - (i + 1),_,_,by omega,Cln.refl,i + 1,rfl,hlt,?_,?_,?_,rfl⟩ <;> (try simp only[zU,Nat.reduceBEq,Nat.reduceShiftRight,Nat.reduceMod,Nat.reduceEqDiff,reduceIte])
     ·exact h1
     ·rw[take_get hk,Re.usesRL_snoc]
     ·rw[w64 _ (by omega)]; rfl
    ·have hie:i=re.kids.length:=by omega
     subst hie
     rw[List.take_length] at h3
     simp only[zW,Nat.reduceShiftRight,Nat.reduceMod,Nat.reduceLT,Nat.reduceMul,Nat.reduceSub,Int.reduceToNat,Int.reduceNeg,Int.reduceLT,Int.reduceLE,Int.reduceEq,Nat.reduceEqDiff,Nat.reduceAdd,Nat.reduceLeDiff,reduceIte,reduceCtorEq,Nat.reduceBEq,i64,Re.cells_eq re,iD,bD,h1,h3,h4,Nat.lt_irrefl]
     all_goals first | exact⟨rfl,rfl⟩ | exact⟨rfl,trivial⟩ | rfl | trivial | (rw[reV_eq]; rfl)
 all_goals
  first
   |(obtain⟨p1,p2,p3,p4,p5,p6,p7,p8⟩:=p
     have hu:usesRN re.op re.mode (headNul re.kids)=0:=by simp [usesRN,p1,p2,p3,p4,p5,p6,p7,p8]
     rw[hu]
     refine fn_ok func33 rfl ntmps33 results33 rfl 0 2143 (by simp) (by simp) ?_
     simp only[zW,Nat.reduceShiftRight,Nat.reduceMod,Nat.reduceLT,Nat.reduceMul,Nat.reduceSub,Int.reduceToNat,Int.reduceNeg,Int.reduceLT,Int.reduceLE,Int.reduceEq,Nat.reduceEqDiff,Nat.reduceAdd,Nat.reduceLeDiff,reduceIte,reduceCtorEq,Nat.reduceBEq,i64,reV_eq re,iD,bD,p1,p2,p3,p4,p5,p6,p7,p8])
   |(rw[p]
     simp only[usesRN,Int.reduceEq,if_true,if_false,reduceIte,or_true,true_or,or_false,false_or,reduceCtorEq]
     refine fn_ok func33 rfl ntmps33 results33 rfl 0 2143 (by simp) (by simp) ?_
     simp only[zW,Nat.reduceShiftRight,Nat.reduceMod,Nat.reduceLT,Nat.reduceMul,Nat.reduceSub,Int.reduceToNat,Int.reduceNeg,Int.reduceLT,Int.reduceLE,Int.reduceEq,Nat.reduceEqDiff,Nat.reduceAdd,Nat.reduceLeDiff,reduceIte,reduceCtorEq,Nat.reduceBEq,i64,reV_eq re,iD,bD,p])
 all_goals
  refine loop_rule (fun n e s=>∃i:Nat,n=re.kids.length - i∧i≤re.kids.length∧e 1=.rf 0 0 0 0∧e 3=i64 (Re.usesRL (re.kids.take i) _)∧e 4=i64 i∧s=[⟨0,true,8,[re.cells.map .d]⟩])
   ⟨_,_,_,Cln.refl,0,rfl,by omega,rfl,rfl,rfl,by first | simp [Re.cells_eq re,iD,bD,p] | simp [Re.cells_eq re,iD,bD]⟩ ?_
  rintro n e s ⟨i,rfl,hi,h1,h3,h4,rfl⟩
  rcases Nat.lt_or_ge i re.kids.length with hlt | hge
  ·obtain⟨k,hk⟩:∃k,re.kids[i]?=some k:=⟨_,List.getElem?_eq_getElem hlt⟩
   have hm:=List.mem_of_getElem? hk
   have hks:=Re.size_kid hm
   simp only[zW,Nat.reduceShiftRight,Nat.reduceMod,Nat.reduceLT,Nat.reduceMul,Nat.reduceSub,Int.reduceToNat,Int.reduceNeg,Int.reduceLT,Int.reduceLE,Int.reduceEq,Nat.reduceEqDiff,Nat.reduceAdd,Nat.reduceLeDiff,reduceIte,reduceCtorEq,Nat.reduceBEq,i64,Re.cells_eq re,iD,bD,h1,h3,h4,hlt,hk]
   refine call_pure (ih k hm (by omega)) (by simp [refsV,refsV.go,reV_eq,i64,bV,reEl]) (by simp [refsV,refsV.go,reV_eq,i64,bV,reEl]) ?_
   simp only[zW,Nat.reduceShiftRight,Nat.reduceMod,Nat.reduceLT,Nat.reduceMul,Nat.reduceSub,Int.reduceToNat,Int.reduceNeg,Int.reduceLT,Int.reduceLE,Int.reduceEq,Nat.reduceEqDiff,Nat.reduceAdd,Nat.reduceLeDiff,reduceIte,reduceCtorEq,Nat.reduceBEq,i64,Re.cells_eq re,iD,bD,h1,h3,h4]
   refine⟨re.kids.length - (i + 1),_,_,by omega,Cln.refl,i + 1,rfl,hlt,?_,?_,?_,rfl⟩ <;> (try simp only[zU,Nat.reduceBEq,Nat.reduceShiftRight,Nat.reduceMod,Nat.reduceEqDiff,reduceIte])
   ·exact h1
   ·rw[take_get hk,Re.usesRL_snoc]
   ·rw[w64 _ (by omega)]; rfl
  ·have hie:i=re.kids.length:=by omega
   subst hie
   rw[List.take_length] at h3
   simp only[zW,Nat.reduceShiftRight,Nat.reduceMod,Nat.reduceLT,Nat.reduceMul,Nat.reduceSub,Int.reduceToNat,Int.reduceNeg,Int.reduceLT,Int.reduceLE,Int.reduceEq,Nat.reduceEqDiff,Nat.reduceAdd,Nat.reduceLeDiff,reduceIte,reduceCtorEq,Nat.reduceBEq,i64,Re.cells_eq re,iD,bD,h1,h3,h4,Nat.lt_irrefl]
   all_goals first | exact⟨rfl,rfl⟩ | exact⟨rfl,trivial⟩ | rfl | trivial | (rw[reV_eq]; rfl)
end Go.Proofs.Ytpppfpaalcbggaa
