/- A part of the proof (F19 F20 F21 F23 F24 F25). -/
import Derived.Test.YtimnnipoaafdfaaSU3
import Derived.Test.YtimnnipoaafdfaaSU4
set_option linter.unusedSimpArgs false
set_option linter.unusedVariables false
set_option maxRecDepth 100000
set_option maxHeartbeats 80000000
set_option linter.unusedSimpArgs false
set_option linter.unusedVariables false
namespace Go.Proofs.Ytimnnipoaafdfaa
open Go.VL Go.Proofs.Try
def exaNode (op mx mn mode:Int) (kids:List Re) (nul:List Bool):Bool :=
 !(decide (op=4)&&(!decide (kids.length=1)||decide (mode=2)||(!(decide (mn=0)&&(decide (mx=-1)||decide (mx=1)))&&nul.headD false)))
mutual
def Re.exa:Re→Bool
 | .mk op _ kids mn mx mode _ _=>exaNode op mx mn mode kids (Re.anulL kids)&&Re.exaL kids
def Re.exaL:List Re→Bool
 | []=>true
 | k::l=>k.exa&&Re.exaL l
end
theorem Re.exaL_all:∀l:List Re,Re.exaL l=l.all Re.exa
 | []=>rfl
 | k::l=>by simp [Re.exaL,Re.exaL_all l]
theorem Re.exa_eq (re:Re):re.exa=(exaNode re.op re.mx re.mn re.mode re.kids (re.kids.map Re.anul)&&re.kids.all Re.exa):=by
 cases re; simp [Re.exa,Re.exaL_all,Re.anulL_eq,Re.op,Re.mn,Re.mx,Re.mode,Re.kids]
theorem expandable_ok (re:Re) (hs:re.fine=true):PureOK prog 52 [reEl re] (bV re.exa):=by
 revert hs
 refine Re.ind (Q:=fun re=>re.fine=true→PureOK prog 52 [reEl re] (bV re.exa)) (fun re ih hs=>?_) re
 obtain⟨hset1,hlen,hfk⟩:=Re.fine_spec hs
 have hkc:=kept_ok re
 rw[reEl,Re.cells_eq re] at hkc
 simp only[iD,bD,bV] at hkc
 refine fn_ok func52 rfl ntmps52 results52 rfl 0 3298534883341 (by simp) (by simp) ?_
 by_cases o4:re.op=4
 ·by_cases hl:re.kids.length=1
  ·have hl':(re.kids.length:Int)=1:=by omega
   have hl0:(0:Int) < 1:=by omega
   obtain⟨k,hk1⟩:∃k,re.kids=[k]:=List.length_eq_one_iff.1 hl
   have hk0:re.kids[0]?=some k:=by rw[hk1]; rfl
   have hmk:k∈re.kids:=by rw[hk1]; simp
   have hkf:=hfk k hmk
   by_cases hmode:re.mode=2
   ·rw[show re.exa=false by rw[Re.exa_eq]; simp [exaNode,o4,hmode]]
    simp only[zW,Nat.reduceShiftRight,Nat.reduceMod,Nat.reduceLT,Nat.reduceMul,Nat.reduceSub,Int.reduceToNat,Int.reduceNeg,Int.reduceLT,Int.reduceLE,Int.reduceEq,Nat.reduceEqDiff,Nat.reduceAdd,Nat.reduceLeDiff,reduceIte,reduceCtorEq,Nat.reduceBEq,i64,reEl,Re.cells_eq re,iD,bD,bV,o4,hl',hmode]
    all_goals first | exact⟨rfl,rfl⟩ | exact⟨rfl,trivial⟩ | rfl | trivial | (rw[reV_eq]; rfl)
   ·simp only[zW,Nat.reduceShiftRight,Nat.reduceMod,Nat.reduceLT,Nat.reduceMul,Nat.reduceSub,Int.reduceToNat,Int.reduceNeg,Int.reduceLT,Int.reduceLE,Int.reduceEq,Nat.reduceEqDiff,Nat.reduceAdd,Nat.reduceLeDiff,reduceIte,reduceCtorEq,Nat.reduceBEq,i64,reEl,Re.cells_eq re,iD,bD,bV,o4,hl',hmode]
    refine call_pure (o4 ▸ hkc) (by simp [refsV,refsV.go,reV_eq,i64,bV,reEl]) (by simp [refsV,refsV.go,reV_eq,i64,bV,reEl]) ?_
    cases hkp:re.kept with
    | true =>
     have hnode:exaNode re.op re.mx re.mn re.mode re.kids (re.kids.map Re.anul)=true:=by
      have hkp':(decide (re.mn=0)&&(decide (re.mx=-1)||decide (re.mx=1)))=true:=hkp
      simp only[exaNode,hkp']; simp [hl,hmode]
     simp only[zW,Nat.reduceShiftRight,Nat.reduceMod,Nat.reduceLT,Nat.reduceMul,Nat.reduceSub,Int.reduceToNat,Int.reduceNeg,Int.reduceLT,Int.reduceLE,Int.reduceEq,Nat.reduceEqDiff,Nat.reduceAdd,Nat.reduceLeDiff,reduceIte,reduceCtorEq,Nat.reduceBEq,i64,reEl,Re.cells_eq re,iD,bD,bV,o4,hl',hmode,hkp]
     refine loop_rule (fun n e s=>∃i:Nat,n=re.kids.length - i∧i≤re.kids.length∧e 0=reEl re∧(∀x∈re.kids.take i,x.exa=true)∧e 40=i64 re.kids.length∧e 41=i64 i∧s=[])
      ⟨_,_,_,Cln.refl,0,rfl,by omega,by simp [reEl,Re.cells_eq re,iD,bD,o4]; rfl,by simp,by first | rfl | (simp only[i64,hl']; rfl),rfl,rfl⟩ ?_
     rintro n e s ⟨i,rfl,hi,h0,hall,h40,h41,rfl⟩
     rcases Nat.lt_or_ge i re.kids.length with hlt | hge
     ·obtain⟨k,hk⟩:∃k,re.kids[i]?=some k:=⟨_,List.getElem?_eq_getElem hlt⟩
      have hm:=List.mem_of_getElem? hk
      have hks:=hfk k hm
      simp only[zW,Nat.reduceShiftRight,Nat.reduceMod,Nat.reduceLT,Nat.reduceMul,Nat.reduceSub,Int.reduceToNat,Int.reduceNeg,Int.reduceLT,Int.reduceLE,Int.reduceEq,Nat.reduceEqDiff,Nat.reduceAdd,Nat.reduceLeDiff,reduceIte,reduceCtorEq,Nat.reduceBEq,i64,reEl,Re.cells_eq re,iD,bD,bV,h0,h40,h41,hlt,hk]
      refine call_pure (ih k hm hks) (by simp [refsV,refsV.go,reV_eq,i64,bV,reEl]) (by simp [refsV,refsV.go,reV_eq,i64,bV,reEl]) ?_
      cases hkn:k.exa with
      | true =>
       simp only[zW,Nat.reduceShiftRight,Nat.reduceMod,Nat.reduceLT,Nat.reduceMul,Nat.reduceSub,Int.reduceToNat,Int.reduceNeg,Int.reduceLT,Int.reduceLE,Int.reduceEq,Nat.reduceEqDiff,Nat.reduceAdd,Nat.reduceLeDiff,reduceIte,reduceCtorEq,Nat.reduceBEq,i64,reEl,Re.cells_eq re,iD,bD,bV,h0,h40,h41,hkn]
       refine⟨re.kids.length - (i + 1),_,_,by omega,Cln.refl,i + 1,rfl,hlt,?_,?_,?_,?_,rfl⟩ <;> (try simp only[zU,Nat.reduceBEq,Nat.reduceShiftRight,Nat.reduceMod,Nat.reduceEqDiff,reduceIte])
       ·simpa [reEl,Re.cells_eq re,iD,bD,o4] using h0
       ·intro x hx
        rw[take_get hk] at hx
        rcases List.mem_append.1 hx with hx | hx
        ·exact hall x hx
        ·rw[List.mem_singleton.1 hx]; exact hkn
       ·exact h40
       ·rw[w64 _ (by omega)]; rfl
      | false =>
       simp only[zW,Nat.reduceShiftRight,Nat.reduceMod,Nat.reduceLT,Nat.reduceMul,Nat.reduceSub,Int.reduceToNat,Int.reduceNeg,Int.reduceLT,Int.reduceLE,Int.reduceEq,Nat.reduceEqDiff,Nat.reduceAdd,Nat.reduceLeDiff,reduceIte,reduceCtorEq,Nat.reduceBEq,i64,reEl,Re.cells_eq re,iD,bD,bV,h0,h40,h41,hkn]
       have:re.kids.all Re.exa=false:=by rw[List.all_eq_false]; exact⟨k,hm,by simp [hkn]⟩
       rw[Re.exa_eq,this,Bool.and_false]
     ·have hie:i=re.kids.length:=by omega
      subst hie
      rw[List.take_length] at hall
      have:re.kids.all Re.exa=true:=by rw[List.all_eq_true]; exact hall
      rw[Re.exa_eq,this,hnode,Bool.and_self]
      simp only[zW,Nat.reduceShiftRight,Nat.reduceMod,Nat.reduceLT,Nat.reduceMul,Nat.reduceSub,Int.reduceToNat,Int.reduceNeg,Int.reduceLT,Int.reduceLE,Int.reduceEq,Nat.reduceEqDiff,Nat.reduceAdd,Nat.reduceLeDiff,reduceIte,reduceCtorEq,Nat.reduceBEq,i64,reEl,Re.cells_eq re,iD,bD,bV,h0,h40,h41,Nat.lt_irrefl]
      all_goals first | exact⟨rfl,rfl⟩ | exact⟨rfl,trivial⟩ | rfl | trivial | (rw[reV_eq]; rfl)
    | false =>
     have hkp':(decide (re.mn=0)&&(decide (re.mx=-1)||decide (re.mx=1)))=false:=hkp
     simp only[zW,Nat.reduceShiftRight,Nat.reduceMod,Nat.reduceLT,Nat.reduceMul,Nat.reduceSub,Int.reduceToNat,Int.reduceNeg,Int.reduceLT,Int.reduceLE,Int.reduceEq,Nat.reduceEqDiff,Nat.reduceAdd,Nat.reduceLeDiff,reduceIte,reduceCtorEq,Nat.reduceBEq,i64,reEl,Re.cells_eq re,iD,bD,bV,o4,hl',hl0,hk0,hmode,hkp]
     refine call_pure (nullable_ok k hkf) (by simp [refsV,refsV.go,reV_eq,i64,bV,reEl]) (by simp [refsV,refsV.go,reV_eq,i64,bV,reEl]) ?_
     cases hkn:k.anul with
     | true =>
      rw[show re.exa=false by rw[Re.exa_eq]; simp only[exaNode,hkp']; simp [o4,hk1,hkn]]
      simp only[zW,Nat.reduceShiftRight,Nat.reduceMod,Nat.reduceLT,Nat.reduceMul,Nat.reduceSub,Int.reduceToNat,Int.reduceNeg,Int.reduceLT,Int.reduceLE,Int.reduceEq,Nat.reduceEqDiff,Nat.reduceAdd,Nat.reduceLeDiff,reduceIte,reduceCtorEq,Nat.reduceBEq,i64,reEl,Re.cells_eq re,iD,bD,bV,o4,hkn]
      all_goals first | exact⟨rfl,rfl⟩ | exact⟨rfl,trivial⟩ | rfl | trivial | (rw[reV_eq]; rfl)
     | false =>
      have hnode:exaNode re.op re.mx re.mn re.mode re.kids (re.kids.map Re.anul)=true:=by
       simp only[exaNode,hkp']; simp [hk1,hmode,hkn]
      simp only[zW,Nat.reduceShiftRight,Nat.reduceMod,Nat.reduceLT,Nat.reduceMul,Nat.reduceSub,Int.reduceToNat,Int.reduceNeg,Int.reduceLT,Int.reduceLE,Int.reduceEq,Nat.reduceEqDiff,Nat.reduceAdd,Nat.reduceLeDiff,reduceIte,reduceCtorEq,Nat.reduceBEq,i64,reEl,Re.cells_eq re,iD,bD,bV,o4,hl',hkn]
      refine loop_rule (fun n e s=>∃i:Nat,n=re.kids.length - i∧i≤re.kids.length∧e 0=reEl re∧(∀x∈re.kids.take i,x.exa=true)∧e 40=i64 re.kids.length∧e 41=i64 i∧s=[])
       ⟨_,_,_,Cln.refl,0,rfl,by omega,by simp [reEl,Re.cells_eq re,iD,bD,o4]; rfl,by simp,by first | rfl | (simp only[i64,hl']; rfl),rfl,rfl⟩ ?_
      rintro n e s ⟨i,rfl,hi,h0,hall,h40,h41,rfl⟩
      rcases Nat.lt_or_ge i re.kids.length with hlt | hge
      ·obtain⟨k,hk⟩:∃k,re.kids[i]?=some k:=⟨_,List.getElem?_eq_getElem hlt⟩
       have hm:=List.mem_of_getElem? hk
       have hks:=hfk k hm
       simp only[zW,Nat.reduceShiftRight,Nat.reduceMod,Nat.reduceLT,Nat.reduceMul,Nat.reduceSub,Int.reduceToNat,Int.reduceNeg,Int.reduceLT,Int.reduceLE,Int.reduceEq,Nat.reduceEqDiff,Nat.reduceAdd,Nat.reduceLeDiff,reduceIte,reduceCtorEq,Nat.reduceBEq,i64,reEl,Re.cells_eq re,iD,bD,bV,h0,h40,h41,hlt,hk]
       refine call_pure (ih k hm hks) (by simp [refsV,refsV.go,reV_eq,i64,bV,reEl]) (by simp [refsV,refsV.go,reV_eq,i64,bV,reEl]) ?_
       cases hkn:k.exa with
       | true =>
        simp only[zW,Nat.reduceShiftRight,Nat.reduceMod,Nat.reduceLT,Nat.reduceMul,Nat.reduceSub,Int.reduceToNat,Int.reduceNeg,Int.reduceLT,Int.reduceLE,Int.reduceEq,Nat.reduceEqDiff,Nat.reduceAdd,Nat.reduceLeDiff,reduceIte,reduceCtorEq,Nat.reduceBEq,i64,reEl,Re.cells_eq re,iD,bD,bV,h0,h40,h41,hkn]
        refine⟨re.kids.length - (i + 1),_,_,by omega,Cln.refl,i + 1,rfl,hlt,?_,?_,?_,?_,rfl⟩ <;> (try simp only[zU,Nat.reduceBEq,Nat.reduceShiftRight,Nat.reduceMod,Nat.reduceEqDiff,reduceIte])
        ·simpa [reEl,Re.cells_eq re,iD,bD,o4] using h0
        ·intro x hx
         rw[take_get hk] at hx
         rcases List.mem_append.1 hx with hx | hx
         ·exact hall x hx
         ·rw[List.mem_singleton.1 hx]; exact hkn
        ·exact h40
        ·rw[w64 _ (by omega)]; rfl
       | false =>
        simp only[zW,Nat.reduceShiftRight,Nat.reduceMod,Nat.reduceLT,Nat.reduceMul,Nat.reduceSub,Int.reduceToNat,Int.reduceNeg,Int.reduceLT,Int.reduceLE,Int.reduceEq,Nat.reduceEqDiff,Nat.reduceAdd,Nat.reduceLeDiff,reduceIte,reduceCtorEq,Nat.reduceBEq,i64,reEl,Re.cells_eq re,iD,bD,bV,h0,h40,h41,hkn]
        have:re.kids.all Re.exa=false:=by rw[List.all_eq_false]; exact⟨k,hm,by simp [hkn]⟩
        rw[Re.exa_eq,this,Bool.and_false]
      ·have hie:i=re.kids.length:=by omega
       subst hie
       rw[List.take_length] at hall
       have:re.kids.all Re.exa=true:=by rw[List.all_eq_true]; exact hall
       rw[Re.exa_eq,this,hnode,Bool.and_self]
       simp only[zW,Nat.reduceShiftRight,Nat.reduceMod,Nat.reduceLT,Nat.reduceMul,Nat.reduceSub,Int.reduceToNat,Int.reduceNeg,Int.reduceLT,Int.reduceLE,Int.reduceEq,Nat.reduceEqDiff,Nat.reduceAdd,Nat.reduceLeDiff,reduceIte,reduceCtorEq,Nat.reduceBEq,i64,reEl,Re.cells_eq re,iD,bD,bV,h0,h40,h41,Nat.lt_irrefl]
       all_goals first | exact⟨rfl,rfl⟩ | exact⟨rfl,trivial⟩ | rfl | trivial | (rw[reV_eq]; rfl)
  ·have hl':¬(re.kids.length:Int)=1:=by omega
   rw[show re.exa=false by rw[Re.exa_eq]; simp [exaNode,o4,hl]]
   simp only[zW,Nat.reduceShiftRight,Nat.reduceMod,Nat.reduceLT,Nat.reduceMul,Nat.reduceSub,Int.reduceToNat,Int.reduceNeg,Int.reduceLT,Int.reduceLE,Int.reduceEq,Nat.reduceEqDiff,Nat.reduceAdd,Nat.reduceLeDiff,reduceIte,reduceCtorEq,Nat.reduceBEq,i64,reEl,Re.cells_eq re,iD,bD,bV,o4,hl']
   all_goals first | exact⟨rfl,rfl⟩ | exact⟨rfl,trivial⟩ | rfl | trivial | (rw[reV_eq]; rfl)
 ·have hnode:exaNode re.op re.mx re.mn re.mode re.kids (re.kids.map Re.anul)=true:=by simp [exaNode,o4]
  simp only[zW,Nat.reduceShiftRight,Nat.reduceMod,Nat.reduceLT,Nat.reduceMul,Nat.reduceSub,Int.reduceToNat,Int.reduceNeg,Int.reduceLT,Int.reduceLE,Int.reduceEq,Nat.reduceEqDiff,Nat.reduceAdd,Nat.reduceLeDiff,reduceIte,reduceCtorEq,Nat.reduceBEq,i64,reEl,Re.cells_eq re,iD,bD,bV,o4]
  refine loop_rule (fun n e s=>∃i:Nat,n=re.kids.length - i∧i≤re.kids.length∧e 0=reEl re∧(∀x∈re.kids.take i,x.exa=true)∧e 40=i64 re.kids.length∧e 41=i64 i∧s=[])
   ⟨_,_,_,Cln.refl,0,rfl,by omega,by simp [reEl,Re.cells_eq re,iD,bD,o4]; rfl,by simp,by first | rfl | (simp only[i64,hl']; rfl),rfl,rfl⟩ ?_
  rintro n e s ⟨i,rfl,hi,h0,hall,h40,h41,rfl⟩
  rcases Nat.lt_or_ge i re.kids.length with hlt | hge
  ·obtain⟨k,hk⟩:∃k,re.kids[i]?=some k:=⟨_,List.getElem?_eq_getElem hlt⟩
   have hm:=List.mem_of_getElem? hk
   have hks:=hfk k hm
   simp only[zW,Nat.reduceShiftRight,Nat.reduceMod,Nat.reduceLT,Nat.reduceMul,Nat.reduceSub,Int.reduceToNat,Int.reduceNeg,Int.reduceLT,Int.reduceLE,Int.reduceEq,Nat.reduceEqDiff,Nat.reduceAdd,Nat.reduceLeDiff,reduceIte,reduceCtorEq,Nat.reduceBEq,i64,reEl,Re.cells_eq re,iD,bD,bV,h0,h40,h41,hlt,hk]
   refine call_pure (ih k hm hks) (by simp [refsV,refsV.go,reV_eq,i64,bV,reEl]) (by simp [refsV,refsV.go,reV_eq,i64,bV,reEl]) ?_
   cases hkn:k.exa with
   | true =>
    simp only[zW,Nat.reduceShiftRight,Nat.reduceMod,Nat.reduceLT,Nat.reduceMul,Nat.reduceSub,Int.reduceToNat,Int.reduceNeg,Int.reduceLT,Int.reduceLE,Int.reduceEq,Nat.reduceEqDiff,Nat.reduceAdd,Nat.reduceLeDiff,reduceIte,reduceCtorEq,Nat.reduceBEq,i64,reEl,Re.cells_eq re,iD,bD,bV,h0,h40,h41,hkn]
    refine⟨re.kids.length - (i + 1),_,_,by omega,Cln.refl,i + 1,rfl,hlt,?_,?_,?_,?_,rfl⟩ <;> (try simp only[zU,Nat.reduceBEq,Nat.reduceShiftRight,Nat.reduceMod,Nat.reduceEqDiff,reduceIte])
    ·simpa [reEl,Re.cells_eq re,iD,bD,o4] using h0
    ·intro x hx
     rw[take_get hk] at hx
     rcases List.mem_append.1 hx with hx | hx
     ·exact hall x hx
     ·rw[List.mem_singleton.1 hx]; exact hkn
    ·exact h40
    ·rw[w64 _ (by omega)]; rfl
   | false =>
    simp only[zW,Nat.reduceShiftRight,Nat.reduceMod,Nat.reduceLT,Nat.reduceMul,Nat.reduceSub,Int.reduceToNat,Int.reduceNeg,Int.reduceLT,Int.reduceLE,Int.reduceEq,Nat.reduceEqDiff,Nat.reduceAdd,Nat.reduceLeDiff,reduceIte,reduceCtorEq,Nat.reduceBEq,i64,reEl,Re.cells_eq re,iD,bD,bV,h0,h40,h41,hkn]
    have:re.kids.all Re.exa=false:=by rw[List.all_eq_false]; exact⟨k,hm,by simp [hkn]⟩
    rw[Re.exa_eq,this,Bool.and_false]
  ·have hie:i=re.kids.length:=by omega
   subst hie
   rw[List.take_length] at hall
   have:re.kids.all Re.exa=true:=by rw[List.all_eq_true]; exact hall
   rw[Re.exa_eq,this,hnode,Bool.and_self]
   simp only[zW,Nat.reduceShiftRight,Nat.reduceMod,Nat.reduceLT,Nat.reduceMul,Nat.reduceSub,Int.reduceToNat,Int.reduceNeg,Int.reduceLT,Int.reduceLE,Int.reduceEq,Nat.reduceEqDiff,Nat.reduceAdd,Nat.reduceLeDiff,reduceIte,reduceCtorEq,Nat.reduceBEq,i64,reEl,Re.cells_eq re,iD,bD,bV,h0,h40,h41,Nat.lt_irrefl]
   all_goals first | exact⟨rfl,rfl⟩ | exact⟨rfl,trivial⟩ | rfl | trivial | (rw[reV_eq]; rfl)
def kidSum (l:List Int):Int:=l.foldl (fun a k=>min (IntKind.i64.wrap (a + k)) 4097) 0
theorem kidSum_snoc (l:List Int) (k:Int):kidSum (l++[k])=min (IntKind.i64.wrap (kidSum l + k)) 4097:=by simp [kidSum,List.foldl_append]
def eszNode (op mn mx kid:Int):Int :=
 if ¬op=4∨(decide (mn=0)&&(decide (mx=-1)||decide (mx=1)))=true then min (IntKind.i64.wrap (1 + kid)) 4097
 else
  let least:=min (max mn 0) 4097
  let sum:=IntKind.i64.wrap (least * kid)
  let more:=min (IntKind.i64.wrap (mx - mn)) 4097
  let ps:Int × Int :=
   if mx=-1 then (IntKind.i64.wrap (least + 1),IntKind.i64.wrap (IntKind.i64.wrap (sum + 1) + kid))
   else if 0 < more then (IntKind.i64.wrap (least + 1),IntKind.i64.wrap (IntKind.i64.wrap (IntKind.i64.wrap (sum + 1) + kid) + IntKind.i64.wrap (IntKind.i64.wrap (more - 1) * IntKind.i64.wrap (2 + kid))))
   else (least,sum)
  min (if 1 < ps.1 then IntKind.i64.wrap (ps.2 + 1) else ps.2) 4097
mutual
def Re.esz:Re→Int
 | .mk op _ kids mn mx _ _ _=>eszNode op mn mx (kidSum (Re.eszL kids))
def Re.eszL:List Re→List Int
 | []=>[]
 | k::l=>k.esz::Re.eszL l
end
theorem Re.eszL_eq:∀l:List Re,Re.eszL l=l.map Re.esz
 | []=>by simp [Re.eszL]
 | k::l=>by simp [Re.eszL,Re.eszL_eq l]
theorem Re.esz_eq (re:Re):re.esz=eszNode re.op re.mn re.mx (kidSum (re.kids.map Re.esz)):=by
 cases re; simp [Re.esz,Re.eszL_eq,Re.op,Re.mn,Re.mx,Re.kids]
theorem expandedSize_ok (re:Re) (hs:re.fine=true):PureOK prog 53 [reEl re] (i64 re.esz):=by
 revert hs
 refine Re.ind (Q:=fun re=>re.fine=true→PureOK prog 53 [reEl re] (i64 re.esz)) (fun re ih hs=>?_) re
 obtain⟨hset1,hlen,hfk⟩:=Re.fine_spec hs
 have hkc:=kept_ok re
 rw[reEl,Re.cells_eq re] at hkc
 simp only[iD,bD,bV] at hkc
 refine fn_ok func53 rfl ntmps53 results53 rfl 0 25085 (by simp) (by simp) ?_
 simp only[zW,Nat.reduceShiftRight,Nat.reduceMod,Nat.reduceLT,Nat.reduceMul,Nat.reduceSub,Int.reduceToNat,Int.reduceNeg,Int.reduceLT,Int.reduceLE,Int.reduceEq,Nat.reduceEqDiff,Nat.reduceAdd,Nat.reduceLeDiff,reduceIte,reduceCtorEq,Nat.reduceBEq,i64,reEl,Re.cells_eq re,iD,bD,bV]
 refine loop_rule (fun n e s=>∃i:Nat,n=re.kids.length - i∧i≤re.kids.length∧e 0=reEl re∧e 3=i64 (kidSum ((re.kids.take i).map Re.esz))∧e 13=i64 re.kids.length∧e 14=i64 i∧s=[])
  ⟨_,_,_,Cln.refl,0,rfl,by omega,by simp [reEl,Re.cells_eq re,iD,bD]; rfl,rfl,rfl,rfl,rfl⟩ ?_
 rintro n e s ⟨i,rfl,hi,h0,h3,h13,h14,rfl⟩
 rcases Nat.lt_or_ge i re.kids.length with hlt | hge
 ·obtain⟨k,hk⟩:∃k,re.kids[i]?=some k:=⟨_,List.getElem?_eq_getElem hlt⟩
  have hm:=List.mem_of_getElem? hk
  have hks:=hfk k hm
  simp only[zW,Nat.reduceShiftRight,Nat.reduceMod,Nat.reduceLT,Nat.reduceMul,Nat.reduceSub,Int.reduceToNat,Int.reduceNeg,Int.reduceLT,Int.reduceLE,Int.reduceEq,Nat.reduceEqDiff,Nat.reduceAdd,Nat.reduceLeDiff,reduceIte,reduceCtorEq,Nat.reduceBEq,i64,reEl,Re.cells_eq re,iD,bD,bV,h0,h3,h13,h14,hlt,hk]
  refine call_pure (ih k hm hks) (by simp [refsV,refsV.go,reV_eq,i64,bV,reEl]) (by simp [refsV,refsV.go,reV_eq,i64,bV,reEl]) ?_
  simp only[zW,Nat.reduceShiftRight,Nat.reduceMod,Nat.reduceLT,Nat.reduceMul,Nat.reduceSub,Int.reduceToNat,Int.reduceNeg,Int.reduceLT,Int.reduceLE,Int.reduceEq,Nat.reduceEqDiff,Nat.reduceAdd,Nat.reduceLeDiff,reduceIte,reduceCtorEq,Nat.reduceBEq,i64,reEl,Re.cells_eq re,iD,bD,bV,h0,h3,h13,h14]
  refine⟨re.kids.length - (i + 1),_,_,by omega,Cln.refl,i + 1,rfl,hlt,?_,?_,?_,?_,rfl⟩ <;> (try simp only[zU,Nat.reduceBEq,Nat.reduceShiftRight,Nat.reduceMod,Nat.reduceEqDiff,reduceIte])
  ·simpa [reEl,Re.cells_eq re,iD,bD] using h0
  ·rw[take_get hk,List.map_append,List.map_cons,List.map_nil,kidSum_snoc]
  ·exact h13
  ·rw[w64 _ (by omega)]; rfl
 have hie:i=re.kids.length:=by omega
 subst hie
 rw[List.take_length] at h3
 rw[Re.esz_eq]
 generalize kidSum (re.kids.map Re.esz)=kid at *
 by_cases o4:re.op=4
 ·simp only[zW,Nat.reduceShiftRight,Nat.reduceMod,Nat.reduceLT,Nat.reduceMul,Nat.reduceSub,Int.reduceToNat,Int.reduceNeg,Int.reduceLT,Int.reduceLE,Int.reduceEq,Nat.reduceEqDiff,Nat.reduceAdd,Nat.reduceLeDiff,reduceIte,reduceCtorEq,Nat.reduceBEq,i64,reEl,Re.cells_eq re,iD,bD,bV,h0,h3,h13,h14,Nat.lt_irrefl,o4]
  refine call_pure (o4 ▸ hkc) (by simp [refsV,refsV.go,reV_eq,i64,bV,reEl]) (by simp [refsV,refsV.go,reV_eq,i64,bV,reEl]) ?_
  cases hkp:re.kept with
  | true =>
   have hkp':(decide (re.mn=0)&&(decide (re.mx=-1)||decide (re.mx=1)))=true:=hkp
   simp only[zW,Nat.reduceShiftRight,Nat.reduceMod,Nat.reduceLT,Nat.reduceMul,Nat.reduceSub,Int.reduceToNat,Int.reduceNeg,Int.reduceLT,Int.reduceLE,Int.reduceEq,Nat.reduceEqDiff,Nat.reduceAdd,Nat.reduceLeDiff,reduceIte,reduceCtorEq,Nat.reduceBEq,i64,reEl,Re.cells_eq re,iD,bD,bV,h0,h3,hkp]
   simp only[eszNode,hkp',or_true,if_true]
  | false =>
   have hkp':(decide (re.mn=0)&&(decide (re.mx=-1)||decide (re.mx=1)))=false:=hkp
   by_cases m1:re.mx=-1
   ·by_cases hp:1 < IntKind.i64.wrap (min (max re.mn 0) 4097 + 1)
    ·simp only[zW,Nat.reduceShiftRight,Nat.reduceMod,Nat.reduceLT,Nat.reduceMul,Nat.reduceSub,Int.reduceToNat,Int.reduceNeg,Int.reduceLT,Int.reduceLE,Int.reduceEq,Nat.reduceEqDiff,Nat.reduceAdd,Nat.reduceLeDiff,reduceIte,reduceCtorEq,Nat.reduceBEq,i64,reEl,Re.cells_eq re,iD,bD,bV,h0,h3,hkp,m1,hp]
     rw[eszNode,if_neg (by first | (rw[hkp']; simp [o4]) | (rw[m1] at hkp'; rw[hkp']; simp))]; simp [m1,hp]
    ·simp only[zW,Nat.reduceShiftRight,Nat.reduceMod,Nat.reduceLT,Nat.reduceMul,Nat.reduceSub,Int.reduceToNat,Int.reduceNeg,Int.reduceLT,Int.reduceLE,Int.reduceEq,Nat.reduceEqDiff,Nat.reduceAdd,Nat.reduceLeDiff,reduceIte,reduceCtorEq,Nat.reduceBEq,i64,reEl,Re.cells_eq re,iD,bD,bV,h0,h3,hkp,m1,hp]
     rw[eszNode,if_neg (by first | (rw[hkp']; simp [o4]) | (rw[m1] at hkp'; rw[hkp']; simp))]; simp [m1,hp]
   ·simp only[zW,Nat.reduceShiftRight,Nat.reduceMod,Nat.reduceLT,Nat.reduceMul,Nat.reduceSub,Int.reduceToNat,Int.reduceNeg,Int.reduceLT,Int.reduceLE,Int.reduceEq,Nat.reduceEqDiff,Nat.reduceAdd,Nat.reduceLeDiff,reduceIte,reduceCtorEq,Nat.reduceBEq,i64,reEl,Re.cells_eq re,iD,bD,bV,h0,h3,hkp,m1]
    refine draw_c mix [] [] (by rfl) ?_
    by_cases hmo:0 < min (IntKind.i64.wrap (re.mx - re.mn)) 4097
    ·by_cases hp:1 < IntKind.i64.wrap (min (max re.mn 0) 4097 + 1)
     ·simp only[zW,Nat.reduceShiftRight,Nat.reduceMod,Nat.reduceLT,Nat.reduceMul,Nat.reduceSub,Int.reduceToNat,Int.reduceNeg,Int.reduceLT,Int.reduceLE,Int.reduceEq,Nat.reduceEqDiff,Nat.reduceAdd,Nat.reduceLeDiff,reduceIte,reduceCtorEq,Nat.reduceBEq,i64,reEl,Re.cells_eq re,iD,bD,bV,h0,h3,hkp,m1,hmo,hp]
      rw[eszNode,if_neg (by first | (rw[hkp']; simp [o4]) | (rw[m1] at hkp'; rw[hkp']; simp))]; simp [m1,hmo,hp]
     ·simp only[zW,Nat.reduceShiftRight,Nat.reduceMod,Nat.reduceLT,Nat.reduceMul,Nat.reduceSub,Int.reduceToNat,Int.reduceNeg,Int.reduceLT,Int.reduceLE,Int.reduceEq,Nat.reduceEqDiff,Nat.reduceAdd,Nat.reduceLeDiff,reduceIte,reduceCtorEq,Nat.reduceBEq,i64,reEl,Re.cells_eq re,iD,bD,bV,h0,h3,hkp,m1,hmo,hp]
      rw[eszNode,if_neg (by first | (rw[hkp']; simp [o4]) | (rw[m1] at hkp'; rw[hkp']; simp))]; simp [m1,hmo,hp]
    ·by_cases hp:1 < min (max re.mn 0) 4097
     ·simp only[zW,Nat.reduceShiftRight,Nat.reduceMod,Nat.reduceLT,Nat.reduceMul,Nat.reduceSub,Int.reduceToNat,Int.reduceNeg,Int.reduceLT,Int.reduceLE,Int.reduceEq,Nat.reduceEqDiff,Nat.reduceAdd,Nat.reduceLeDiff,reduceIte,reduceCtorEq,Nat.reduceBEq,i64,reEl,Re.cells_eq re,iD,bD,bV,h0,h3,hkp,m1,hmo,hp]
      rw[eszNode,if_neg (by first | (rw[hkp']; simp [o4]) | (rw[m1] at hkp'; rw[hkp']; simp))]; simp [m1,hmo,hp]
     ·simp only[zW,Nat.reduceShiftRight,Nat.reduceMod,Nat.reduceLT,Nat.reduceMul,Nat.reduceSub,Int.reduceToNat,Int.reduceNeg,Int.reduceLT,Int.reduceLE,Int.reduceEq,Nat.reduceEqDiff,Nat.reduceAdd,Nat.reduceLeDiff,reduceIte,reduceCtorEq,Nat.reduceBEq,i64,reEl,Re.cells_eq re,iD,bD,bV,h0,h3,hkp,m1,hmo,hp]
      rw[eszNode,if_neg (by first | (rw[hkp']; simp [o4]) | (rw[m1] at hkp'; rw[hkp']; simp))]; simp [m1,hmo,hp]
 ·simp only[zW,Nat.reduceShiftRight,Nat.reduceMod,Nat.reduceLT,Nat.reduceMul,Nat.reduceSub,Int.reduceToNat,Int.reduceNeg,Int.reduceLT,Int.reduceLE,Int.reduceEq,Nat.reduceEqDiff,Nat.reduceAdd,Nat.reduceLeDiff,reduceIte,reduceCtorEq,Nat.reduceBEq,i64,reEl,Re.cells_eq re,iD,bD,bV,h0,h3,h13,h14,Nat.lt_irrefl,o4]
  simp [eszNode,o4]
def nodeV (re:Re) (v:V):V:=.ag [i64 re.op,.d (.sl (re.set.map spanC)),v,i64 re.mn,i64 re.mx,i64 re.mode,i64 re.n,bV re.neg]
theorem clone0_ok (re:Re) (hs:re.set.length≤1000000000):PureOK prog 55 [nodeV re (.fu [])] (nodeV re (.fu [])):=by
 refine fn_keep func55 rfl ntmps55 results55 rfl 0 57391 (by simp) (by simp) ?_
 simp only[zW,Nat.reduceShiftRight,Nat.reduceMod,Nat.reduceLT,Nat.reduceMul,Nat.reduceSub,Int.reduceToNat,Int.reduceNeg,Int.reduceLT,Int.reduceLE,Int.reduceEq,Nat.reduceEqDiff,Nat.reduceAdd,Nat.reduceLeDiff,reduceIte,reduceCtorEq,Nat.reduceBEq,nodeV,i64,bV]
 refine call_pure (cloneSpans_ok re.set hs) (by simp [refsV,refsV.go,reV_eq,i64,bV,reEl]) (by simp [refsV,refsV.go,reV_eq,i64,bV,reEl]) ?_
 simp only[zW,Nat.reduceShiftRight,Nat.reduceMod,Nat.reduceLT,Nat.reduceMul,Nat.reduceSub,Int.reduceToNat,Int.reduceNeg,Int.reduceLT,Int.reduceLE,Int.reduceEq,Nat.reduceEqDiff,Nat.reduceAdd,Nat.reduceLeDiff,reduceIte,reduceCtorEq,Nat.reduceBEq,nodeV,i64,bV]
 refine loop_rule (fun n e s=>n=0∧e 1=.rf 0 0 0 0∧e 2=.rf 1 0 0 0∧e 14=i64 0∧e 15=i64 0∧s=[cloneO re (.fu []),zeroO])
  ⟨_,_,_,Cln.refl,rfl,rfl,rfl,rfl,rfl,rfl⟩ ?_
 rintro n e s ⟨rfl,h1,h2,h14,h15,rfl⟩
 simp only[zW,Nat.reduceShiftRight,Nat.reduceMod,Nat.reduceLT,Nat.reduceMul,Nat.reduceSub,Int.reduceToNat,Int.reduceNeg,Int.reduceLT,Int.reduceLE,Int.reduceEq,Nat.reduceEqDiff,Nat.reduceAdd,Nat.reduceLeDiff,reduceIte,reduceCtorEq,Nat.reduceBEq,h1,h2,h14,h15,i64,bV,cloneO,zeroO,Nat.lt_irrefl,Qkeep_app,keepWp,refsV,refsV.go,Int.lt_irrefl]
 all_goals first | exact⟨rfl,rfl⟩ | exact⟨rfl,trivial⟩ | rfl | trivial | (rw[reV_eq]; rfl)
mutual
def Re.exp:Re→Re
 | .mk op set kids mn mx mode n neg =>
  if op=4∧(decide (mn=0)&&(decide (mx=-1)||decide (mx=1)))=false then unrollR (.mk op set kids mn mx mode n neg) ((Re.expL kids).headD (.mk 0 [] [] 0 0 0 0 false))
  else .mk op set (Re.expL kids) mn mx mode n neg
def Re.expL:List Re→List Re
 | []=>[]
 | k::l=>k.exp::Re.expL l
end
theorem Re.expL_eq:∀l:List Re,Re.expL l=l.map Re.exp
 | []=>by simp [Re.expL]
 | k::l=>by simp [Re.expL,Re.expL_eq l]
def Re.out (re:Re):Re:=.mk re.op re.set (re.kids.map Re.exp) re.mn re.mx re.mode re.n re.neg
theorem Re.exp_keep {re:Re} (h:re.op≠4∨re.kept=true):re.exp=re.out:=by
 cases re with
 | mk op set kids mn mx mode n neg =>
  have:¬(op=4∧(decide (mn=0)&&(decide (mx=-1)||decide (mx=1)))=false):=by
   rintro ⟨h1,h2⟩
   rcases h with h | h
   ·exact h h1
   ·have h':(decide (mn=0)&&(decide (mx=-1)||decide (mx=1)))=true:=h
    rw[h2] at h'; cases h'
  rw[Re.exp,if_neg this,Re.expL_eq]; rfl
theorem Re.exp_un {re:Re} (h4:re.op=4) (hk:re.kept=false) {k:Re} {l:List Re} (hl:re.kids=k::l):re.exp=unrollR re k.exp:=by
 cases re with
 | mk op set kids mn mx mode n neg =>
  have h':(decide (mn=0)&&(decide (mx=-1)||decide (mx=1)))=false:=hk
  have hl':kids=k::l:=hl
  rw[Re.exp,if_pos ⟨h4,h'⟩,hl']
  rfl
def exNode (re:Re):Prop:=re.op=4→re.kept=false→(re.kids≠[]∧0≤re.mn∧re.mn≤1000000∧-1≤re.mx∧re.mx≤1000000)
def ExpOK (re:Re):Prop:=callWp prog 54 [reV re,.rf 0 0 0 0] [cellO 54] fun v s=>v=reV re.exp∧s=[cellO 54]
theorem exp_step (re:Re) (hs:re.fine=true) (ih:∀k∈re.kids,ExpOK k) (hx:∀k∈re.kids,k.exp.fine=true) (hn:exNode re):ExpOK re:=by
 obtain⟨hset1,hlen,hfk⟩:=Re.fine_spec hs
 have hcl:=clone0_ok re hset1
 simp only[nodeV,i64,bV] at hcl
 have hkc:=kept_ok re
 rw[reEl,Re.cells_eq re] at hkc
 simp only[iD,bD,bV] at hkc
 unfold ExpOK
 refine fn_ok func54 rfl ntmps54 results54 rfl 1 117440607 (by simp) (by simp) ?_
 simp only[zW,Nat.reduceShiftRight,Nat.reduceMod,Nat.reduceLT,Nat.reduceMul,Nat.reduceSub,Int.reduceToNat,Int.reduceNeg,Int.reduceLT,Int.reduceLE,Int.reduceEq,Nat.reduceEqDiff,Nat.reduceAdd,Nat.reduceLeDiff,reduceIte,reduceCtorEq,Nat.reduceBEq,i64,reV_eq re,iD,bD,cellO,bV]
 refine call_pure hcl rfl rfl ?_
 simp only[zW,Nat.reduceShiftRight,Nat.reduceMod,Nat.reduceLT,Nat.reduceMul,Nat.reduceSub,Int.reduceToNat,Int.reduceNeg,Int.reduceLT,Int.reduceLE,Int.reduceEq,Nat.reduceEqDiff,Nat.reduceAdd,Nat.reduceLeDiff,reduceIte,reduceCtorEq,Nat.reduceBEq,i64,bV]
 refine loop_rule (fun n e s=>∃i:Nat,n=re.kids.length - i∧i≤re.kids.length∧e 1=.rf 0 0 0 0∧e 2=.rf 1 0 0 0∧e 3=.rf 2 0 0 0∧e 4=.rf 3 0 0 0∧e 24=.d (.sl (re.kids.map Re.cells))∧e 25=i64 re.kids.length∧e 26=i64 i ∧
   ((i=0∧s=[cellO 54,cloneO re (.d (.sl (re.kids.map Re.cells))),zeroO,cloneO re (.fu [])]) ∨
    ∃g X,objOk 6 X=true∧s=[cellO 54,cloneO re (.d (.sl (re.kids.map Re.cells))),zeroO,cloneO re (.so 5 g 0 i),X,arrO g ((re.kids.take i).map Re.exp)]))
  ⟨_,_,_,Cln.refl,0,rfl,by omega,rfl,rfl,rfl,rfl,rfl,rfl,rfl,.inl ⟨rfl,rfl⟩⟩ ?_
 rintro n e s ⟨i,rfl,hi,h1,h2,h3,h4,h24,h25,h26,hacc⟩
 rcases Nat.lt_or_ge i re.kids.length with hlt | hge
 ·obtain⟨k,hk⟩:∃k,re.kids[i]?=some k:=⟨_,List.getElem?_eq_getElem hlt⟩
  have hm:=List.mem_of_getElem? hk
  have htk:(re.kids.take (i + 1)).map Re.exp=(re.kids.take i).map Re.exp++[k.exp]:=by rw[take_get hk]; simp
  rcases hacc with ⟨rfl,rfl⟩ | ⟨g,X,hX,rfl⟩
  ·simp only[zW,Nat.reduceShiftRight,Nat.reduceMod,Nat.reduceLT,Nat.reduceMul,Nat.reduceSub,Int.reduceToNat,Int.reduceNeg,Int.reduceLT,Int.reduceLE,Int.reduceEq,Nat.reduceEqDiff,Nat.reduceAdd,Nat.reduceLeDiff,reduceIte,reduceCtorEq,Nat.reduceBEq,h1,h2,h3,h4,h24,h25,h26,i64,bV,hlt,hk,cloneO,zeroO,cellO]
   refine draw_c mix [6,8] [(2,[0],[]),(4,[0],[0])] (by rfl) ?_
   simp only[zW,Nat.reduceShiftRight,Nat.reduceMod,Nat.reduceLT,Nat.reduceMul,Nat.reduceSub,Int.reduceToNat,Int.reduceNeg,Int.reduceLT,Int.reduceLE,Int.reduceEq,Nat.reduceEqDiff,Nat.reduceAdd,Nat.reduceLeDiff,reduceIte,reduceCtorEq,Nat.reduceBEq,h1,h2,h3,h4,h24,h25,h26,i64,bV]
   refine callF_one (ih k hm) (by simp [renV,renV_reV]) (by simp [refsV,refsV.go,reV_eq,i64,bV,reEl]) rfl rfl rfl (renV_reV _ _) ?_
   simp only[zW,Nat.reduceShiftRight,Nat.reduceMod,Nat.reduceLT,Nat.reduceMul,Nat.reduceSub,Int.reduceToNat,Int.reduceNeg,Int.reduceLT,Int.reduceLE,Int.reduceEq,Nat.reduceEqDiff,Nat.reduceAdd,Nat.reduceLeDiff,reduceIte,reduceCtorEq,Nat.reduceBEq,h1,h2,h3,h4,h24,h25,h26,i64,bV]
   refine⟨fun x hx=>by rw[List.mem_singleton.1 hx]; simp [Re.cells_len],by simp,re.kids.length - 1,_,_,by omega,Cln.refl,1,rfl,by omega,?_,?_,?_,?_,?_,?_,?_,.inr ⟨0,_,?_,by rw[htk]; rfl⟩⟩ <;> (try simp only[zU,Nat.reduceBEq,Nat.reduceShiftRight,Nat.reduceMod,Nat.reduceEqDiff,reduceIte])
   ·exact h1
   ·exact h2
   ·exact h3
   ·exact h4
   ·exact h24
   ·exact h25
   ·rw[w64 _ (by omega)]; rfl
   ·simp [refsV]
  ·simp only[zW,Nat.reduceShiftRight,Nat.reduceMod,Nat.reduceLT,Nat.reduceMul,Nat.reduceSub,Int.reduceToNat,Int.reduceNeg,Int.reduceLT,Int.reduceLE,Int.reduceEq,Nat.reduceEqDiff,Nat.reduceAdd,Nat.reduceLeDiff,reduceIte,reduceCtorEq,Nat.reduceBEq,h1,h2,h3,h4,h24,h25,h26,i64,bV,hlt,hk,cloneO,zeroO,cellO,arrO]
   refine draw_c mix [6,8] [(2,[0],[]),(4,[0],[0])] (by rfl) ?_
   simp only[zW,Nat.reduceShiftRight,Nat.reduceMod,Nat.reduceLT,Nat.reduceMul,Nat.reduceSub,Int.reduceToNat,Int.reduceNeg,Int.reduceLT,Int.reduceLE,Int.reduceEq,Nat.reduceEqDiff,Nat.reduceAdd,Nat.reduceLeDiff,reduceIte,reduceCtorEq,Nat.reduceBEq,h1,h2,h3,h4,h24,h25,h26,i64,bV]
   refine callF_one (ih k hm) (by simp [renV,renV_reV]) (by simp [refsV,refsV.go,reV_eq,i64,bV,reEl]) rfl rfl rfl (renV_reV _ _) ?_
   simp only[zW,Nat.reduceShiftRight,Nat.reduceMod,Nat.reduceLT,Nat.reduceMul,Nat.reduceSub,Int.reduceToNat,Int.reduceNeg,Int.reduceLT,Int.reduceLE,Int.reduceEq,Nat.reduceEqDiff,Nat.reduceAdd,Nat.reduceLeDiff,reduceIte,reduceCtorEq,Nat.reduceBEq,h1,h2,h3,h4,h24,h25,h26,i64,bV]
   have hcut:(((((re.kids.take i).map Re.exp).map Re.cells).map fun c=>c.map V.d).take i)=(((re.kids.take i).map Re.exp).map Re.cells).map fun c=>c.map V.d:=List.take_of_length_le (by simp; omega)
   rw[hcut]
   refine⟨fun x hx=>by rw[List.mem_singleton.1 hx]; simp [Re.cells_len],⟨by simp; omega,by omega⟩,re.kids.length - (i + 1),_,_,by omega,Cln.cut 6 (by omega) rfl ?_ [1,2,3,4,24,25,26] ?_,i + 1,rfl,by omega,?_,?_,?_,?_,?_,?_,?_,.inr ⟨g + 1,X,hX,?_⟩⟩ <;> (try simp only[zU,Nat.reduceBEq,Nat.reduceShiftRight,Nat.reduceMod,Nat.reduceEqDiff,reduceIte])
   ·simp only[objOk] at hX
    simp [objOk,refsV,refsV.go,hX,cellO]
    intro x hx y hy
    obtain⟨r,_,rfl⟩:=List.mem_map.1 (List.mem_of_mem_take hx)
    obtain⟨d,_,rfl⟩:=List.mem_map.1 hy
    rfl
   ·simp [updE,trimE_app,refsV,h1,h2,h3,h4,h24,h25,i64]
   ·exact h1
   ·exact h2
   ·exact h3
   ·exact h4
   ·exact h24
   ·exact h25
   ·rw[w64 _ (by omega)]; rfl
   ·rw[htk]
    simp [cellO]
 have hie:i=re.kids.length:=by omega
 subst hie
 by_cases o4:re.op=4
 ·cases hkp:re.kept with
  | true =>
   rw[Re.exp_keep (.inr hkp)]
   rcases hacc with ⟨hz,rfl⟩ | ⟨g,X,hX,rfl⟩
   ·simp only[zW,Nat.reduceShiftRight,Nat.reduceMod,Nat.reduceLT,Nat.reduceMul,Nat.reduceSub,Int.reduceToNat,Int.reduceNeg,Int.reduceLT,Int.reduceLE,Int.reduceEq,Nat.reduceEqDiff,Nat.reduceAdd,Nat.reduceLeDiff,reduceIte,reduceCtorEq,Nat.reduceBEq,h1,h2,h3,h4,h24,h25,h26,i64,bV,cloneO,zeroO,cellO,arrO,Nat.lt_irrefl,o4]
    refine call_give [1] rfl ?_
    refine call_pure (o4 ▸ hkc) rfl rfl ?_
    simp only[zW,Nat.reduceShiftRight,Nat.reduceMod,Nat.reduceLT,Nat.reduceMul,Nat.reduceSub,Int.reduceToNat,Int.reduceNeg,Int.reduceLT,Int.reduceLE,Int.reduceEq,Nat.reduceEqDiff,Nat.reduceAdd,Nat.reduceLeDiff,reduceIte,reduceCtorEq,Nat.reduceBEq,h1,h2,h3,h4,h24,h25,h26,i64,bV,cloneO,zeroO,cellO,arrO,hkp,killO,kill1]
    have hk0:re.kids=[]:=List.eq_nil_of_length_eq_zero hz
    rw[reV_eq,show re.out.op=4 from o4,show re.out.kids=re.kids.map Re.exp from rfl,hk0]
    rfl
   ·simp only[zW,Nat.reduceShiftRight,Nat.reduceMod,Nat.reduceLT,Nat.reduceMul,Nat.reduceSub,Int.reduceToNat,Int.reduceNeg,Int.reduceLT,Int.reduceLE,Int.reduceEq,Nat.reduceEqDiff,Nat.reduceAdd,Nat.reduceLeDiff,reduceIte,reduceCtorEq,Nat.reduceBEq,h1,h2,h3,h4,h24,h25,h26,i64,bV,cloneO,zeroO,cellO,arrO,Nat.lt_irrefl,o4]
    refine call_give [1] rfl ?_
    refine call_pure (o4 ▸ hkc) rfl rfl ?_
    simp only[zW,Nat.reduceShiftRight,Nat.reduceMod,Nat.reduceLT,Nat.reduceMul,Nat.reduceSub,Int.reduceToNat,Int.reduceNeg,Int.reduceLT,Int.reduceLE,Int.reduceEq,Nat.reduceEqDiff,Nat.reduceAdd,Nat.reduceLeDiff,reduceIte,reduceCtorEq,Nat.reduceBEq,h1,h2,h3,h4,h24,h25,h26,i64,bV,cloneO,zeroO,cellO,arrO,hkp,killO,kill1]
    rw[List.take_length,frz_data 7 1 _ _ _ (by simp),if_pos (by omega),reV_eq,show re.out.op=4 from o4]
    rfl
  | false =>
   obtain⟨hne,n0,n1,n2,n3⟩:=hn o4 hkp
   obtain⟨k,l,hkl⟩:=List.exists_cons_of_ne_nil hne
   rw[Re.exp_un o4 hkp hkl]
   have hun:=unroll_ok re k.exp (hx k (by rw[hkl]; simp)) n0 n1 n2 n3
   rw[reEl,Re.cells_eq re] at hun
   simp only[iD,bD] at hun
   have hp0:0 < re.kids.length:=by rw[hkl]; simp
   have hp0':(0:Int) < (re.kids.length:Int):=by omega
   have hk0:(re.kids.take re.kids.length)[0]?=some k:=by rw[List.take_length,hkl]; rfl
   rcases hacc with ⟨hz,rfl⟩ | ⟨g,X,hX,rfl⟩
   ·omega
   ·simp only[zW,Nat.reduceShiftRight,Nat.reduceMod,Nat.reduceLT,Nat.reduceMul,Nat.reduceSub,Int.reduceToNat,Int.reduceNeg,Int.reduceLT,Int.reduceLE,Int.reduceEq,Nat.reduceEqDiff,Nat.reduceAdd,Nat.reduceLeDiff,reduceIte,reduceCtorEq,Nat.reduceBEq,h1,h2,h3,h4,h24,h25,h26,i64,bV,cloneO,zeroO,cellO,arrO,Nat.lt_irrefl,o4]
    refine call_give [1] rfl ?_
    refine call_pure (o4 ▸ hkc) rfl rfl ?_
    simp only[zW,Nat.reduceShiftRight,Nat.reduceMod,Nat.reduceLT,Nat.reduceMul,Nat.reduceSub,Int.reduceToNat,Int.reduceNeg,Int.reduceLT,Int.reduceLE,Int.reduceEq,Nat.reduceEqDiff,Nat.reduceAdd,Nat.reduceLeDiff,reduceIte,reduceCtorEq,Nat.reduceBEq,h1,h2,h3,h4,h24,h25,h26,i64,bV,cloneO,zeroO,cellO,arrO,hkp,killO,kill1,hp0,hp0',hk0]
    refine call_give [1] ?_ (call_pure (o4 ▸ hun) (by simp [refsV,refsV.go,reV_eq]) (by simp [refsV,refsV.go,reV_eq,i64,bV,reEl]) ?_)
    ·rw[reV_eq k.exp]; rfl
    simp only[zW,Nat.reduceShiftRight,Nat.reduceMod,Nat.reduceLT,Nat.reduceMul,Nat.reduceSub,Int.reduceToNat,Int.reduceNeg,Int.reduceLT,Int.reduceLE,Int.reduceEq,Nat.reduceEqDiff,Nat.reduceAdd,Nat.reduceLeDiff,reduceIte,reduceCtorEq,Nat.reduceBEq,h1,h2,h3,h4,h24,h25,h26,i64,bV,cloneO,zeroO,cellO,arrO,killO,kill1]
    all_goals first | exact⟨rfl,rfl⟩ | exact⟨rfl,trivial⟩ | rfl | trivial | (rw[reV_eq]; rfl)
 ·rw[Re.exp_keep (.inl o4)]
  rcases hacc with ⟨hz,rfl⟩ | ⟨g,X,hX,rfl⟩
  ·simp only[zW,Nat.reduceShiftRight,Nat.reduceMod,Nat.reduceLT,Nat.reduceMul,Nat.reduceSub,Int.reduceToNat,Int.reduceNeg,Int.reduceLT,Int.reduceLE,Int.reduceEq,Nat.reduceEqDiff,Nat.reduceAdd,Nat.reduceLeDiff,reduceIte,reduceCtorEq,Nat.reduceBEq,h1,h2,h3,h4,h24,h25,h26,i64,bV,cloneO,zeroO,cellO,arrO,Nat.lt_irrefl,o4]
   have hk0:re.kids=[]:=List.eq_nil_of_length_eq_zero hz
   rw[Re.out,hk0,reV_eq]
   rfl
  ·simp only[zW,Nat.reduceShiftRight,Nat.reduceMod,Nat.reduceLT,Nat.reduceMul,Nat.reduceSub,Int.reduceToNat,Int.reduceNeg,Int.reduceLT,Int.reduceLE,Int.reduceEq,Nat.reduceEqDiff,Nat.reduceAdd,Nat.reduceLeDiff,reduceIte,reduceCtorEq,Nat.reduceBEq,h1,h2,h3,h4,h24,h25,h26,i64,bV,cloneO,zeroO,cellO,arrO,Nat.lt_irrefl,o4]
   rw[List.take_length,frz_data 7 1 _ _ _ (by simp),if_pos (by omega),reV_eq]
   rfl
mutual
def Re.every (p:Re→Bool):Re→Bool
 | .mk op set kids mn mx mode n neg=>p (.mk op set kids mn mx mode n neg)&&Re.everyL p kids
def Re.everyL (p:Re→Bool):List Re→Bool
 | []=>true
 | k::l=>Re.every p k&&Re.everyL p l
end
theorem Re.everyL_all (p:Re→Bool):∀l:List Re,Re.everyL p l=l.all (Re.every p)
 | []=>rfl
 | k::l=>by simp [Re.everyL,Re.everyL_all p l]
theorem Re.every_iff {p:Re→Bool} (re:Re):re.every p=true ↔ p re=true∧∀k∈re.kids,k.every p=true:=by
 cases re with
 | mk op set kids mn mx mode n neg=>simp only[Re.every,Bool.and_eq_true,Re.everyL_all,List.all_eq_true,Re.kids]
def exq (re:Re):Bool:=decide (re.set.length≤1000000000∧re.kids.length≤1000000000∧(re.op=4→0≤re.mn∧re.mn≤1000000∧-1≤re.mx∧re.mx≤1000000))
theorem fine_of_exq (re:Re) (h:re.every exq=true):re.fine=true:=by
 revert h
 refine Re.ind (Q:=fun re=>re.every exq=true→re.fine=true) (fun re ih h=>?_) re
 obtain⟨h1,h2⟩:=(Re.every_iff re).1 h
 have h1:=of_decide_eq_true h1
 exact(Re.fine_iff re).2 ⟨h1.1,h1.2.1,fun k hk=>ih k hk (h2 k hk)⟩
theorem rept_fine {x:Re} (h:x.fine=true) (most mode:Int):(rept x most mode).fine=true:=by
 rw[Re.fine_iff]
 refine⟨by simp [rept,Re.set],by simp [rept,Re.kids],fun k hk=>?_⟩
 have:k=x:=by simpa [rept,Re.kids] using hk
 rw[this]; exact h
theorem join_fine {l:List Re} (h:∀x∈l,x.fine=true) (hl:l.length≤1000000000):(joinR l).fine=true:=by
 unfold joinR
 split
 ·exact h _ (by simp)
 ·rw[Re.fine_iff]
  exact⟨by simp [Re.set],hl,h⟩
theorem rest_fine {x:Re} (h:x.fine=true) (mode:Int):∀j,(restR mode x j).fine=true
 | 0=>rept_fine h _ _
 | j + 1=>rept_fine (join_fine (fun y hy=>by
   rcases List.mem_cons.1 hy with rfl | hy
   ·exact h
   ·rw[List.mem_singleton.1 hy]; exact rest_fine h mode j) (by simp)) _ _
theorem unroll_fine {re x:Re} (h:x.fine=true) (h0:0≤re.mn) (h1:re.mn≤1000000):(unrollR re x).fine=true:=by
 unfold unrollR
 have hn:re.mn.toNat≤1000000:=by omega
 refine join_fine (fun y hy=>?_) ?_
 ·rcases List.mem_append.1 hy with hy | hy
  ·rw[(List.mem_replicate.1 hy).2]; exact h
  ·split at hy
   ·rw[List.mem_singleton.1 hy]; exact rept_fine h _ _
   ·split at hy
    ·rw[List.mem_singleton.1 hy]; exact rest_fine h _ _
    ·cases hy
 ·rw[List.length_append,List.length_replicate]
  split
  ·simp; omega
  ·split <;> simp <;> omega
theorem exa_spec {re:Re} (h:re.exa=true):(re.op=4→re.kids.length=1)∧∀k∈re.kids,k.exa=true:=by
 rw[Re.exa_eq,Bool.and_eq_true,List.all_eq_true] at h
 refine⟨fun o=>?_,h.2⟩
 have h1:=h.1
 simp only[exaNode,o] at h1
 by_cases hl:re.kids.length=1
 ·exact hl
 ·simp [hl] at h1
theorem exp_both (re:Re) (h:re.every exq=true) (ha:re.exa=true):re.exp.fine=true∧ExpOK re:=by
 revert h ha
 refine Re.ind (Q:=fun re=>re.every exq=true→re.exa=true→re.exp.fine=true∧ExpOK re) (fun re ih h ha=>?_) re
 have hf:=fine_of_exq re h
 obtain⟨h1,h2⟩:=(Re.every_iff re).1 h
 have h1:=of_decide_eq_true h1
 obtain⟨a1,a2⟩:=exa_spec ha
 have hx:∀k∈re.kids,k.exp.fine=true:=fun k hk=>(ih k hk (h2 k hk) (a2 k hk)).1
 have hn:exNode re:=fun o _=>⟨fun he=>(by have:=a1 o; rw[he] at this; cases this),h1.2.2 o⟩
 refine⟨?_,exp_step re hf (fun k hk=>(ih k hk (h2 k hk) (a2 k hk)).2) hx hn⟩
 by_cases hk:re.op=4∧re.kept=false
 ·obtain⟨hne,n0,n1,_,_⟩:=hn hk.1 hk.2
  obtain⟨k,l,hkl⟩:=List.exists_cons_of_ne_nil hne
  rw[Re.exp_un hk.1 hk.2 hkl]
  exact unroll_fine (hx k (by rw[hkl]; simp)) n0 n1
 ·rw[Re.exp_keep (by
   by_cases o:re.op=4
   ·right; cases hkk:re.kept with
    | true=>rfl
    | false=>exact absurd ⟨o,hkk⟩ hk
   ·exact .inl o),Re.fine_iff]
  refine⟨h1.1,by simpa [Re.out,Re.kids] using h1.2.1,fun y hy=>?_⟩
  obtain⟨k,hk,rfl⟩:=List.mem_map.1 (show y∈re.kids.map Re.exp from hy)
  exact hx k hk
def zeroR:Re:=.mk 0 [] [] 0 0 0 0 false
def expandR (re:Re):Re × Int:=if re.exa=false then (zeroR,10) else if 4096 < re.esz then (zeroR,4) else (re.exp,0)
theorem expand_ok (re:Re) (h:re.every exq=true):PureOK prog 29 [reV re] (.tu [reV (expandR re).1,i64 (expandR re).2]):=by
 have hf:=fine_of_exq re h
 have hea:=expandable_ok re hf
 have hes:=expandedSize_ok re hf
 rw[reEl,Re.cells_eq re] at hea hes
 simp only[iD,bD,bV,i64] at hea hes
 refine fn_ok func29 rfl ntmps29 results29 rfl 0 31 (by simp) (by simp) ?_
 simp only[zW,Nat.reduceShiftRight,Nat.reduceMod,Nat.reduceLT,Nat.reduceMul,Nat.reduceSub,Int.reduceToNat,Int.reduceNeg,Int.reduceLT,Int.reduceLE,Int.reduceEq,Nat.reduceEqDiff,Nat.reduceAdd,Nat.reduceLeDiff,reduceIte,reduceCtorEq,Nat.reduceBEq,i64,reV_eq re,iD,bD]
 refine call_give [0] rfl ?_
 refine call_pure hea rfl rfl ?_
 cases hx:re.exa with
 | false =>
  simp only[zW,Nat.reduceShiftRight,Nat.reduceMod,Nat.reduceLT,Nat.reduceMul,Nat.reduceSub,Int.reduceToNat,Int.reduceNeg,Int.reduceLT,Int.reduceLE,Int.reduceEq,Nat.reduceEqDiff,Nat.reduceAdd,Nat.reduceLeDiff,reduceIte,reduceCtorEq,Nat.reduceBEq,hx,killO,kill1,i64]
  rw[expandR,if_pos hx,zeroR,reV_eq]
  rfl
 | true =>
  have hx':¬re.exa=false:=by rw[hx]; decide
  obtain⟨_,hok⟩:=exp_both re h hx
  unfold ExpOK at hok
  rw[reV_eq re] at hok
  simp only[iD,bD] at hok
  simp only[zW,Nat.reduceShiftRight,Nat.reduceMod,Nat.reduceLT,Nat.reduceMul,Nat.reduceSub,Int.reduceToNat,Int.reduceNeg,Int.reduceLT,Int.reduceLE,Int.reduceEq,Nat.reduceEqDiff,Nat.reduceAdd,Nat.reduceLeDiff,reduceIte,reduceCtorEq,Nat.reduceBEq,hx,killO,kill1,i64]
  refine call_give [0] rfl ?_
  refine call_pure hes rfl rfl ?_
  by_cases hz:4096 < re.esz
  ·simp only[zW,Nat.reduceShiftRight,Nat.reduceMod,Nat.reduceLT,Nat.reduceMul,Nat.reduceSub,Int.reduceToNat,Int.reduceNeg,Int.reduceLT,Int.reduceLE,Int.reduceEq,Nat.reduceEqDiff,Nat.reduceAdd,Nat.reduceLeDiff,reduceIte,reduceCtorEq,Nat.reduceBEq,hx,killO,kill1,i64,hz]
   rw[expandR,if_neg hx',if_pos hz,zeroR,reV_eq]
   rfl
  ·simp only[zW,Nat.reduceShiftRight,Nat.reduceMod,Nat.reduceLT,Nat.reduceMul,Nat.reduceSub,Int.reduceToNat,Int.reduceNeg,Int.reduceLT,Int.reduceLE,Int.reduceEq,Nat.reduceEqDiff,Nat.reduceAdd,Nat.reduceLeDiff,reduceIte,reduceCtorEq,Nat.reduceBEq,hx,killO,kill1,i64,hz]
   rw[expandR,if_neg hx',if_neg hz]
   refine call_at (r':=reV re.exp) 2 hok rfl rfl rfl rfl (renV_reV _ _) ?_
   simp only[zW,Nat.reduceShiftRight,Nat.reduceMod,Nat.reduceLT,Nat.reduceMul,Nat.reduceSub,Int.reduceToNat,Int.reduceNeg,Int.reduceLT,Int.reduceLE,Int.reduceEq,Nat.reduceEqDiff,Nat.reduceAdd,Nat.reduceLeDiff,reduceIte,reduceCtorEq,Nat.reduceBEq,killO,kill1,renO,renV,renV.go,cellO,i64]
   simp only[zW,Nat.reduceShiftRight,Nat.reduceMod,Nat.reduceLT,Nat.reduceMul,Nat.reduceSub,Int.reduceToNat,Int.reduceNeg,Int.reduceLT,Int.reduceLE,Int.reduceEq,Nat.reduceEqDiff,Nat.reduceAdd,Nat.reduceLeDiff,reduceIte,reduceCtorEq,Nat.reduceBEq,reV_eq re.exp,iD,bD]
   all_goals first | exact⟨rfl,rfl⟩ | exact⟨rfl,trivial⟩ | rfl | trivial | (rw[reV_eq]; rfl)
end Go.Proofs.Ytimnnipoaafdfaa
namespace Go.Proofs.Ytimnnipoaafdfaa
open Go.VL Go.Proofs.Try
structure LR (nul:Bool) (p:Int × Int):Prop where
 a0:0≤p.1
 a1:p.1≤1000000
 b0:-1≤p.2
 b1:p.2≤1000000
 ab:p.2=-1∨p.1≤p.2
 nl:nul=true ↔ p.1=0
def genB (re:Re):Bool:=decide (re.set.length≤10∧re.kids.length≤4∧0≤re.op∧re.op≤11∧(re.op=4→re.kids.length=1∧0≤re.mn∧re.mn≤2∧(re.mx=-1∨(1≤re.mx∧re.mx≤3∧re.mn≤re.mx))) ∧
 (re.op=3∨re.op=10∨re.op=5∨re.op=9→re.kids≠[]))
theorem every_mono {p q:Re→Bool} (h:∀re,p re=true→q re=true) (re:Re) (hp:re.every p=true):re.every q=true:=by
 revert hp
 refine Re.ind (Q:=fun re=>re.every p=true→re.every q=true) (fun re ih hp=>?_) re
 obtain⟨h1,h2⟩:=(Re.every_iff re).1 hp
 exact(Re.every_iff re).2 ⟨h re h1,fun k hk=>ih k hk (h2 k hk)⟩
theorem gen_exq (re:Re) (h:re.every genB=true):re.every exq=true:=by
 refine every_mono (fun re h=>?_) re h
 have:=of_decide_eq_true h
 refine decide_eq_true ?_
 refine⟨by omega,by omega,fun o=>?_⟩
 have:=this.2.2.2.2.1 o
 omega
end Go.Proofs.Ytimnnipoaafdfaa
