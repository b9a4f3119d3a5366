/- A part of the proof (F19 F20 F21 F23 F24 F25). -/
import Derived.Test.YtffeafbdcakfbaaAQ3
import Derived.Test.YtffeafbdcakfbaaAQ7
import Derived.Test.YtffeafbdcakfbaaAQ4
set_option linter.unusedSimpArgs false
set_option linter.unusedVariables false
set_option maxRecDepth 100000
set_option maxHeartbeats 80000000
set_option linter.unusedSimpArgs false
set_option linter.unusedVariables false
namespace Go.Proofs.Ytffeafbdcakfbaa
open Go.VL Go.Proofs.Try
def exaNode (op mx mn mode:Int) (kids:List Re) (nul:List Bool):Bool :=
 !(decide (op=4)&&(!decide (kids.length=1)||decide (mode=2)||(!(decide (mn=0)&&(decide (mx=-1)||decide (mx=1)))&&nul.headD false)))
mutual
def Re.exa:Re→Bool
 | .mk op _ kids mn mx mode _ _=>exaNode op mx mn mode kids (Re.anulL kids)&&Re.exaL kids
def Re.exaL:List Re→Bool
 | []=>true
 | k::l=>k.exa&&Re.exaL l
end
theorem Re.exaL_all:∀l:List Re,Re.exaL l=l.all Re.exa
 | []=>rfl
 | k::l=>by simp [Re.exaL,Re.exaL_all l]
theorem Re.exa_eq (re:Re):re.exa=(exaNode re.op re.mx re.mn re.mode re.kids (re.kids.map Re.anul)&&re.kids.all Re.exa):=by
 cases re; simp [Re.exa,Re.exaL_all,Re.anulL_eq,Re.op,Re.mn,Re.mx,Re.mode,Re.kids]
theorem expandable_ok (re:Re) (hs:re.fine=true):PureOK prog 78 [reEl re] (bV re.exa):=by
 revert hs
 refine Re.ind (Q:=fun re=>re.fine=true→PureOK prog 78 [reEl re] (bV re.exa)) (fun re ih hs=>?_) re
 obtain⟨hset1,hlen,hfk⟩:=Re.fine_spec hs
 have hkc:=kept_ok re
 rw[reEl,Re.cells_eq re] at hkc
 simp only[iD,bD,bV] at hkc
 refine fn_ok func78 rfl ntmps78 results78 rfl 0 3298534883341 (by simp) (by simp) ?_
 by_cases o4:re.op=4
 ·by_cases hl:re.kids.length=1
  ·have hl':(re.kids.length:Int)=1:=by omega
   have hl0:(0:Int) < 1:=by omega
   obtain⟨k,hk1⟩:∃k,re.kids=[k]:=List.length_eq_one_iff.1 hl
   have hk0:re.kids[0]?=some k:=by rw[hk1]; rfl
   have hmk:k∈re.kids:=by rw[hk1]; simp
   have hkf:=hfk k hmk
   by_cases hmode:re.mode=2
   ·rw[show re.exa=false by rw[Re.exa_eq]; simp [exaNode,o4,hmode]]
    simp only[zW,Nat.reduceShiftRight,Nat.reduceMod,Nat.reduceLT,Nat.reduceMul,Nat.reduceSub,Int.reduceToNat,Int.reduceNeg,Int.reduceLT,Int.reduceLE,Int.reduceEq,Nat.reduceEqDiff,Nat.reduceAdd,Nat.reduceLeDiff,reduceIte,reduceCtorEq,Nat.reduceBEq,i64,reEl,Re.cells_eq re,iD,bD,bV,o4,hl',hmode]
    all_goals first | exact⟨rfl,rfl⟩ | exact⟨rfl,trivial⟩ | rfl | trivial | (rw[reV_eq]; rfl)
   ·simp only[zW,Nat.reduceShiftRight,Nat.reduceMod,Nat.reduceLT,Nat.reduceMul,Nat.reduceSub,Int.reduceToNat,Int.reduceNeg,Int.reduceLT,Int.reduceLE,Int.reduceEq,Nat.reduceEqDiff,Nat.reduceAdd,Nat.reduceLeDiff,reduceIte,reduceCtorEq,Nat.reduceBEq,i64,reEl,Re.cells_eq re,iD,bD,bV,o4,hl',hmode]
    refine call_pure (o4 ▸ hkc) (by simp [refsV,refsV.go,reV_eq,i64,bV,reEl]) (by simp [refsV,refsV.go,reV_eq,i64,bV,reEl]) ?_
    cases hkp:re.kept with
    | true =>
     have hnode:exaNode re.op re.mx re.mn re.mode re.kids (re.kids.map Re.anul)=true:=by
      have hkp':(decide (re.mn=0)&&(decide (re.mx=-1)||decide (re.mx=1)))=true:=hkp
      simp only[exaNode,hkp']; simp [hl,hmode]
     simp only[zW,Nat.reduceShiftRight,Nat.reduceMod,Nat.reduceLT,Nat.reduceMul,Nat.reduceSub,Int.reduceToNat,Int.reduceNeg,Int.reduceLT,Int.reduceLE,Int.reduceEq,Nat.reduceEqDiff,Nat.reduceAdd,Nat.reduceLeDiff,reduceIte,reduceCtorEq,Nat.reduceBEq,i64,reEl,Re.cells_eq re,iD,bD,bV,o4,hl',hmode,hkp]
     refine loop_rule (fun n e s=>∃i:Nat,n=re.kids.length - i∧i≤re.kids.length∧e 0=reEl re∧(∀x∈re.kids.take i,x.exa=true)∧e 40=i64 re.kids.length∧e 41=i64 i∧s=[])
      ⟨_,_,_,Cln.refl,0,rfl,by omega,by simp [reEl,Re.cells_eq re,iD,bD,o4]; rfl,by simp,by first | rfl | (simp only[i64,hl']; rfl),rfl,rfl⟩ ?_
     rintro n e s ⟨i,rfl,hi,h0,hall,h40,h41,rfl⟩
     rcases Nat.lt_or_ge i re.kids.length with hlt | hge
     ·obtain⟨k,hk⟩:∃k,re.kids[i]?=some k:=⟨_,List.getElem?_eq_getElem hlt⟩
      have hm:=List.mem_of_getElem? hk
      have hks:=hfk k hm
      simp only[zW,Nat.reduceShiftRight,Nat.reduceMod,Nat.reduceLT,Nat.reduceMul,Nat.reduceSub,Int.reduceToNat,Int.reduceNeg,Int.reduceLT,Int.reduceLE,Int.reduceEq,Nat.reduceEqDiff,Nat.reduceAdd,Nat.reduceLeDiff,reduceIte,reduceCtorEq,Nat.reduceBEq,i64,reEl,Re.cells_eq re,iD,bD,bV,h0,h40,h41,hlt,hk]
      refine call_pure (ih k hm hks) (by simp [refsV,refsV.go,reV_eq,i64,bV,reEl]) (by simp [refsV,refsV.go,reV_eq,i64,bV,reEl]) ?_
      cases hkn:k.exa with
      | true =>
       simp only[zW,Nat.reduceShiftRight,Nat.reduceMod,Nat.reduceLT,Nat.reduceMul,Nat.reduceSub,Int.reduceToNat,Int.reduceNeg,Int.reduceLT,Int.reduceLE,Int.reduceEq,Nat.reduceEqDiff,Nat.reduceAdd,Nat.reduceLeDiff,reduceIte,reduceCtorEq,Nat.reduceBEq,i64,reEl,Re.cells_eq re,iD,bD,bV,h0,h40,h41,hkn]
       refine⟨re.kids.length - (i + 1),_,_,by omega,Cln.refl,i + 1,rfl,hlt,?_,?_,?_,?_,rfl⟩ <;> (try simp only[zU,Nat.reduceBEq,Nat.reduceShiftRight,Nat.reduceMod,Nat.reduceEqDiff,reduceIte])
       ·simpa [reEl,Re.cells_eq re,iD,bD,o4] using h0
       ·intro x hx
        rw[take_get hk] at hx
        rcases List.mem_append.1 hx with hx | hx
        ·exact hall x hx
        ·rw[List.mem_singleton.1 hx]; exact hkn
       ·exact h40
       ·rw[w64 _ (by omega)]; rfl
      | false =>
       simp only[zW,Nat.reduceShiftRight,Nat.reduceMod,Nat.reduceLT,Nat.reduceMul,Nat.reduceSub,Int.reduceToNat,Int.reduceNeg,Int.reduceLT,Int.reduceLE,Int.reduceEq,Nat.reduceEqDiff,Nat.reduceAdd,Nat.reduceLeDiff,reduceIte,reduceCtorEq,Nat.reduceBEq,i64,reEl,Re.cells_eq re,iD,bD,bV,h0,h40,h41,hkn]
       have:re.kids.all Re.exa=false:=by rw[List.all_eq_false]; exact⟨k,hm,by simp [hkn]⟩
       rw[Re.exa_eq,this,Bool.and_false]
     ·have hie:i=re.kids.length:=by omega
      subst hie
      rw[List.take_length] at hall
      have:re.kids.all Re.exa=true:=by rw[List.all_eq_true]; exact hall
      rw[Re.exa_eq,this,hnode,Bool.and_self]
      simp only[zW,Nat.reduceShiftRight,Nat.reduceMod,Nat.reduceLT,Nat.reduceMul,Nat.reduceSub,Int.reduceToNat,Int.reduceNeg,Int.reduceLT,Int.reduceLE,Int.reduceEq,Nat.reduceEqDiff,Nat.reduceAdd,Nat.reduceLeDiff,reduceIte,reduceCtorEq,Nat.reduceBEq,i64,reEl,Re.cells_eq re,iD,bD,bV,h0,h40,h41,Nat.lt_irrefl]
      all_goals first | exact⟨rfl,rfl⟩ | exact⟨rfl,trivial⟩ | rfl | trivial | (rw[reV_eq]; rfl)
    | false =>
     have hkp':(decide (re.mn=0)&&(decide (re.mx=-1)||decide (re.mx=1)))=false:=hkp
     simp only[zW,Nat.reduceShiftRight,Nat.reduceMod,Nat.reduceLT,Nat.reduceMul,Nat.reduceSub,Int.reduceToNat,Int.reduceNeg,Int.reduceLT,Int.reduceLE,Int.reduceEq,Nat.reduceEqDiff,Nat.reduceAdd,Nat.reduceLeDiff,reduceIte,reduceCtorEq,Nat.reduceBEq,i64,reEl,Re.cells_eq re,iD,bD,bV,o4,hl',hl0,hk0,hmode,hkp]
     refine call_pure (nullable_ok k hkf) (by simp [refsV,refsV.go,reV_eq,i64,bV,reEl]) (by simp [refsV,refsV.go,reV_eq,i64,bV,reEl]) ?_
     cases hkn:k.anul with
     | true =>
      rw[show re.exa=false by rw[Re.exa_eq]; simp only[exaNode,hkp']; simp [o4,hk1,hkn]]
      simp only[zW,Nat.reduceShiftRight,Nat.reduceMod,Nat.reduceLT,Nat.reduceMul,Nat.reduceSub,Int.reduceToNat,Int.reduceNeg,Int.reduceLT,Int.reduceLE,Int.reduceEq,Nat.reduceEqDiff,Nat.reduceAdd,Nat.reduceLeDiff,reduceIte,reduceCtorEq,Nat.reduceBEq,i64,reEl,Re.cells_eq re,iD,bD,bV,o4,hkn]
      all_goals first | exact⟨rfl,rfl⟩ | exact⟨rfl,trivial⟩ | rfl | trivial | (rw[reV_eq]; rfl)
     | false =>
      have hnode:exaNode re.op re.mx re.mn re.mode re.kids (re.kids.map Re.anul)=true:=by
       simp only[exaNode,hkp']; simp [hk1,hmode,hkn]
      simp only[zW,Nat.reduceShiftRight,Nat.reduceMod,Nat.reduceLT,Nat.reduceMul,Nat.reduceSub,Int.reduceToNat,Int.reduceNeg,Int.reduceLT,Int.reduceLE,Int.reduceEq,Nat.reduceEqDiff,Nat.reduceAdd,Nat.reduceLeDiff,reduceIte,reduceCtorEq,Nat.reduceBEq,i64,reEl,Re.cells_eq re,iD,bD,bV,o4,hl',hkn]
      refine loop_rule (fun n e s=>∃i:Nat,n=re.kids.length - i∧i≤re.kids.length∧e 0=reEl re∧(∀x∈re.kids.take i,x.exa=true)∧e 40=i64 re.kids.length∧e 41=i64 i∧s=[])
       ⟨_,_,_,Cln.refl,0,rfl,by omega,by simp [reEl,Re.cells_eq re,iD,bD,o4]; rfl,by simp,by first | rfl | (simp only[i64,hl']; rfl),rfl,rfl⟩ ?_
      rintro n e s ⟨i,rfl,hi,h0,hall,h40,h41,rfl⟩
      rcases Nat.lt_or_ge i re.kids.length with hlt | hge
      ·obtain⟨k,hk⟩:∃k,re.kids[i]?=some k:=⟨_,List.getElem?_eq_getElem hlt⟩
       have hm:=List.mem_of_getElem? hk
       have hks:=hfk k hm
       simp only[zW,Nat.reduceShiftRight,Nat.reduceMod,Nat.reduceLT,Nat.reduceMul,Nat.reduceSub,Int.reduceToNat,Int.reduceNeg,Int.reduceLT,Int.reduceLE,Int.reduceEq,Nat.reduceEqDiff,Nat.reduceAdd,Nat.reduceLeDiff,reduceIte,reduceCtorEq,Nat.reduceBEq,i64,reEl,Re.cells_eq re,iD,bD,bV,h0,h40,h41,hlt,hk]
       refine call_pure (ih k hm hks) (by simp [refsV,refsV.go,reV_eq,i64,bV,reEl]) (by simp [refsV,refsV.go,reV_eq,i64,bV,reEl]) ?_
       cases hkn:k.exa with
       | true =>
        simp only[zW,Nat.reduceShiftRight,Nat.reduceMod,Nat.reduceLT,Nat.reduceMul,Nat.reduceSub,Int.reduceToNat,Int.reduceNeg,Int.reduceLT,Int.reduceLE,Int.reduceEq,Nat.reduceEqDiff,Nat.reduceAdd,Nat.reduceLeDiff,reduceIte,reduceCtorEq,Nat.reduceBEq,i64,reEl,Re.cells_eq re,iD,bD,bV,h0,h40,h41,hkn]
        refine⟨re.kids.length - (i + 1),_,_,by omega,Cln.refl,i + 1,rfl,hlt,?_,?_,?_,?_,rfl⟩ <;> (try simp only[zU,Nat.reduceBEq,Nat.reduceShiftRight,Nat.reduceMod,Nat.reduceEqDiff,reduceIte])
        ·simpa [reEl,Re.cells_eq re,iD,bD,o4] using h0
        ·intro x hx
         rw[take_get hk] at hx
         rcases List.mem_append.1 hx with hx | hx
         ·exact hall x hx
         ·rw[List.mem_singleton.1 hx]; exact hkn
        ·exact h40
        ·rw[w64 _ (by omega)]; rfl
       | false =>
        simp only[zW,Nat.reduceShiftRight,Nat.reduceMod,Nat.reduceLT,Nat.reduceMul,Nat.reduceSub,Int.reduceToNat,Int.reduceNeg,Int.reduceLT,Int.reduceLE,Int.reduceEq,Nat.reduceEqDiff,Nat.reduceAdd,Nat.reduceLeDiff,reduceIte,reduceCtorEq,Nat.reduceBEq,i64,reEl,Re.cells_eq re,iD,bD,bV,h0,h40,h41,hkn]
        have:re.kids.all Re.exa=false:=by rw[List.all_eq_false]; exact⟨k,hm,by simp [hkn]⟩
        rw[Re.exa_eq,this,Bool.and_false]
      ·have hie:i=re.kids.length:=by omega
       subst hie
       rw[List.take_length] at hall
       have:re.kids.all Re.exa=true:=by rw[List.all_eq_true]; exact hall
       rw[Re.exa_eq,this,hnode,Bool.and_self]
       simp only[zW,Nat.reduceShiftRight,Nat.reduceMod,Nat.reduceLT,Nat.reduceMul,Nat.reduceSub,Int.reduceToNat,Int.reduceNeg,Int.reduceLT,Int.reduceLE,Int.reduceEq,Nat.reduceEqDiff,Nat.reduceAdd,Nat.reduceLeDiff,reduceIte,reduceCtorEq,Nat.reduceBEq,i64,reEl,Re.cells_eq re,iD,bD,bV,h0,h40,h41,Nat.lt_irrefl]
       all_goals first | exact⟨rfl,rfl⟩ | exact⟨rfl,trivial⟩ | rfl | trivial | (rw[reV_eq]; rfl)
  ·have hl':¬(re.kids.length:Int)=1:=by omega
   rw[show re.exa=false by rw[Re.exa_eq]; simp [exaNode,o4,hl]]
   simp only[zW,Nat.reduceShiftRight,Nat.reduceMod,Nat.reduceLT,Nat.reduceMul,Nat.reduceSub,Int.reduceToNat,Int.reduceNeg,Int.reduceLT,Int.reduceLE,Int.reduceEq,Nat.reduceEqDiff,Nat.reduceAdd,Nat.reduceLeDiff,reduceIte,reduceCtorEq,Nat.reduceBEq,i64,reEl,Re.cells_eq re,iD,bD,bV,o4,hl']
   all_goals first | exact⟨rfl,rfl⟩ | exact⟨rfl,trivial⟩ | rfl | trivial | (rw[reV_eq]; rfl)
 ·have hnode:exaNode re.op re.mx re.mn re.mode re.kids (re.kids.map Re.anul)=true:=by simp [exaNode,o4]
  simp only[zW,Nat.reduceShiftRight,Nat.reduceMod,Nat.reduceLT,Nat.reduceMul,Nat.reduceSub,Int.reduceToNat,Int.reduceNeg,Int.reduceLT,Int.reduceLE,Int.reduceEq,Nat.reduceEqDiff,Nat.reduceAdd,Nat.reduceLeDiff,reduceIte,reduceCtorEq,Nat.reduceBEq,i64,reEl,Re.cells_eq re,iD,bD,bV,o4]
  refine loop_rule (fun n e s=>∃i:Nat,n=re.kids.length - i∧i≤re.kids.length∧e 0=reEl re∧(∀x∈re.kids.take i,x.exa=true)∧e 40=i64 re.kids.length∧e 41=i64 i∧s=[])
   ⟨_,_,_,Cln.refl,0,rfl,by omega,by simp [reEl,Re.cells_eq re,iD,bD,o4]; rfl,by simp,by first | rfl | (simp only[i64,hl']; rfl),rfl,rfl⟩ ?_
  rintro n e s ⟨i,rfl,hi,h0,hall,h40,h41,rfl⟩
  rcases Nat.lt_or_ge i re.kids.length with hlt | hge
  ·obtain⟨k,hk⟩:∃k,re.kids[i]?=some k:=⟨_,List.getElem?_eq_getElem hlt⟩
   have hm:=List.mem_of_getElem? hk
   have hks:=hfk k hm
   simp only[zW,Nat.reduceShiftRight,Nat.reduceMod,Nat.reduceLT,Nat.reduceMul,Nat.reduceSub,Int.reduceToNat,Int.reduceNeg,Int.reduceLT,Int.reduceLE,Int.reduceEq,Nat.reduceEqDiff,Nat.reduceAdd,Nat.reduceLeDiff,reduceIte,reduceCtorEq,Nat.reduceBEq,i64,reEl,Re.cells_eq re,iD,bD,bV,h0,h40,h41,hlt,hk]
   refine call_pure (ih k hm hks) (by simp [refsV,refsV.go,reV_eq,i64,bV,reEl]) (by simp [refsV,refsV.go,reV_eq,i64,bV,reEl]) ?_
   cases hkn:k.exa with
   | true =>
    simp only[zW,Nat.reduceShiftRight,Nat.reduceMod,Nat.reduceLT,Nat.reduceMul,Nat.reduceSub,Int.reduceToNat,Int.reduceNeg,Int.reduceLT,Int.reduceLE,Int.reduceEq,Nat.reduceEqDiff,Nat.reduceAdd,Nat.reduceLeDiff,reduceIte,reduceCtorEq,Nat.reduceBEq,i64,reEl,Re.cells_eq re,iD,bD,bV,h0,h40,h41,hkn]
    refine⟨re.kids.length - (i + 1),_,_,by omega,Cln.refl,i + 1,rfl,hlt,?_,?_,?_,?_,rfl⟩ <;> (try simp only[zU,Nat.reduceBEq,Nat.reduceShiftRight,Nat.reduceMod,Nat.reduceEqDiff,reduceIte])
    ·simpa [reEl,Re.cells_eq re,iD,bD,o4] using h0
    ·intro x hx
     rw[take_get hk] at hx
     rcases List.mem_append.1 hx with hx | hx
     ·exact hall x hx
     ·rw[List.mem_singleton.1 hx]; exact hkn
    ·exact h40
    ·rw[w64 _ (by omega)]; rfl
   | false =>
    simp only[zW,Nat.reduceShiftRight,Nat.reduceMod,Nat.reduceLT,Nat.reduceMul,Nat.reduceSub,Int.reduceToNat,Int.reduceNeg,Int.reduceLT,Int.reduceLE,Int.reduceEq,Nat.reduceEqDiff,Nat.reduceAdd,Nat.reduceLeDiff,reduceIte,reduceCtorEq,Nat.reduceBEq,i64,reEl,Re.cells_eq re,iD,bD,bV,h0,h40,h41,hkn]
    have:re.kids.all Re.exa=false:=by rw[List.all_eq_false]; exact⟨k,hm,by simp [hkn]⟩
    rw[Re.exa_eq,this,Bool.and_false]
  ·have hie:i=re.kids.length:=by omega
   subst hie
   rw[List.take_length] at hall
   have:re.kids.all Re.exa=true:=by rw[List.all_eq_true]; exact hall
   rw[Re.exa_eq,this,hnode,Bool.and_self]
   simp only[zW,Nat.reduceShiftRight,Nat.reduceMod,Nat.reduceLT,Nat.reduceMul,Nat.reduceSub,Int.reduceToNat,Int.reduceNeg,Int.reduceLT,Int.reduceLE,Int.reduceEq,Nat.reduceEqDiff,Nat.reduceAdd,Nat.reduceLeDiff,reduceIte,reduceCtorEq,Nat.reduceBEq,i64,reEl,Re.cells_eq re,iD,bD,bV,h0,h40,h41,Nat.lt_irrefl]
   all_goals first | exact⟨rfl,rfl⟩ | exact⟨rfl,trivial⟩ | rfl | trivial | (rw[reV_eq]; rfl)
def kidSum (l:List Int):Int:=l.foldl (fun a k=>min (IntKind.i64.wrap (a + k)) 4097) 0
theorem kidSum_snoc (l:List Int) (k:Int):kidSum (l++[k])=min (IntKind.i64.wrap (kidSum l + k)) 4097:=by simp [kidSum,List.foldl_append]
def eszNode (op mn mx kid:Int):Int :=
 if ¬op=4∨(decide (mn=0)&&(decide (mx=-1)||decide (mx=1)))=true then min (IntKind.i64.wrap (1 + kid)) 4097
 else
  let least:=min (max mn 0) 4097
  let sum:=IntKind.i64.wrap (least * kid)
  let more:=min (IntKind.i64.wrap (mx - mn)) 4097
  let ps:Int × Int :=
   if mx=-1 then (IntKind.i64.wrap (least + 1),IntKind.i64.wrap (IntKind.i64.wrap (sum + 1) + kid))
   else if 0 < more then (IntKind.i64.wrap (least + 1),IntKind.i64.wrap (IntKind.i64.wrap (IntKind.i64.wrap (sum + 1) + kid) + IntKind.i64.wrap (IntKind.i64.wrap (more - 1) * IntKind.i64.wrap (2 + kid))))
   else (least,sum)
  min (if 1 < ps.1 then IntKind.i64.wrap (ps.2 + 1) else ps.2) 4097
mutual
def Re.esz:Re→Int
 | .mk op _ kids mn mx _ _ _=>eszNode op mn mx (kidSum (Re.eszL kids))
def Re.eszL:List Re→List Int
 | []=>[]
 | k::l=>k.esz::Re.eszL l
end
theorem Re.eszL_eq:∀l:List Re,Re.eszL l=l.map Re.esz
 | []=>by simp [Re.eszL]
 | k::l=>by simp [Re.eszL,Re.eszL_eq l]
theorem Re.esz_eq (re:Re):re.esz=eszNode re.op re.mn re.mx (kidSum (re.kids.map Re.esz)):=by
 cases re; simp [Re.esz,Re.eszL_eq,Re.op,Re.mn,Re.mx,Re.kids]
theorem expandedSize_ok (re:Re) (hs:re.fine=true):PureOK prog 79 [reEl re] (i64 re.esz):=by
 revert hs
 refine Re.ind (Q:=fun re=>re.fine=true→PureOK prog 79 [reEl re] (i64 re.esz)) (fun re ih hs=>?_) re
 obtain⟨hset1,hlen,hfk⟩:=Re.fine_spec hs
 have hkc:=kept_ok re
 rw[reEl,Re.cells_eq re] at hkc
 simp only[iD,bD,bV] at hkc
 refine fn_ok func79 rfl ntmps79 results79 rfl 0 25085 (by simp) (by simp) ?_
 simp only[zW,Nat.reduceShiftRight,Nat.reduceMod,Nat.reduceLT,Nat.reduceMul,Nat.reduceSub,Int.reduceToNat,Int.reduceNeg,Int.reduceLT,Int.reduceLE,Int.reduceEq,Nat.reduceEqDiff,Nat.reduceAdd,Nat.reduceLeDiff,reduceIte,reduceCtorEq,Nat.reduceBEq,i64,reEl,Re.cells_eq re,iD,bD,bV]
 refine loop_rule (fun n e s=>∃i:Nat,n=re.kids.length - i∧i≤re.kids.length∧e 0=reEl re∧e 3=i64 (kidSum ((re.kids.take i).map Re.esz))∧e 13=i64 re.kids.length∧e 14=i64 i∧s=[])
  ⟨_,_,_,Cln.refl,0,rfl,by omega,by simp [reEl,Re.cells_eq re,iD,bD]; rfl,rfl,rfl,rfl,rfl⟩ ?_
 rintro n e s ⟨i,rfl,hi,h0,h3,h13,h14,rfl⟩
 rcases Nat.lt_or_ge i re.kids.length with hlt | hge
 ·obtain⟨k,hk⟩:∃k,re.kids[i]?=some k:=⟨_,List.getElem?_eq_getElem hlt⟩
  have hm:=List.mem_of_getElem? hk
  have hks:=hfk k hm
  simp only[zW,Nat.reduceShiftRight,Nat.reduceMod,Nat.reduceLT,Nat.reduceMul,Nat.reduceSub,Int.reduceToNat,Int.reduceNeg,Int.reduceLT,Int.reduceLE,Int.reduceEq,Nat.reduceEqDiff,Nat.reduceAdd,Nat.reduceLeDiff,reduceIte,reduceCtorEq,Nat.reduceBEq,i64,reEl,Re.cells_eq re,iD,bD,bV,h0,h3,h13,h14,hlt,hk]
  refine call_pure (ih k hm hks) (by simp [refsV,refsV.go,reV_eq,i64,bV,reEl]) (by simp [refsV,refsV.go,reV_eq,i64,bV,reEl]) ?_
  simp only[zW,Nat.reduceShiftRight,Nat.reduceMod,Nat.reduceLT,Nat.reduceMul,Nat.reduceSub,Int.reduceToNat,Int.reduceNeg,Int.reduceLT,Int.reduceLE,Int.reduceEq,Nat.reduceEqDiff,Nat.reduceAdd,Nat.reduceLeDiff,reduceIte,reduceCtorEq,Nat.reduceBEq,i64,reEl,Re.cells_eq re,iD,bD,bV,h0,h3,h13,h14]
  refine⟨re.kids.length - (i + 1),_,_,by omega,Cln.refl,i + 1,rfl,hlt,?_,?_,?_,?_,rfl⟩ <;> (try simp only[zU,Nat.reduceBEq,Nat.reduceShiftRight,Nat.reduceMod,Nat.reduceEqDiff,reduceIte])
  ·simpa [reEl,Re.cells_eq re,iD,bD] using h0
  ·rw[take_get hk,List.map_append,List.map_cons,List.map_nil,kidSum_snoc]
  ·exact h13
  ·rw[w64 _ (by omega)]; rfl
 have hie:i=re.kids.length:=by omega
 subst hie
 rw[List.take_length] at h3
 rw[Re.esz_eq]
 generalize kidSum (re.kids.map Re.esz)=kid at *
 by_cases o4:re.op=4
 ·simp only[zW,Nat.reduceShiftRight,Nat.reduceMod,Nat.reduceLT,Nat.reduceMul,Nat.reduceSub,Int.reduceToNat,Int.reduceNeg,Int.reduceLT,Int.reduceLE,Int.reduceEq,Nat.reduceEqDiff,Nat.reduceAdd,Nat.reduceLeDiff,reduceIte,reduceCtorEq,Nat.reduceBEq,i64,reEl,Re.cells_eq re,iD,bD,bV,h0,h3,h13,h14,Nat.lt_irrefl,o4]
  refine call_pure (o4 ▸ hkc) (by simp [refsV,refsV.go,reV_eq,i64,bV,reEl]) (by simp [refsV,refsV.go,reV_eq,i64,bV,reEl]) ?_
  cases hkp:re.kept with
  | true =>
   have hkp':(decide (re.mn=0)&&(decide (re.mx=-1)||decide (re.mx=1)))=true:=hkp
   simp only[zW,Nat.reduceShiftRight,Nat.reduceMod,Nat.reduceLT,Nat.reduceMul,Nat.reduceSub,Int.reduceToNat,Int.reduceNeg,Int.reduceLT,Int.reduceLE,Int.reduceEq,Nat.reduceEqDiff,Nat.reduceAdd,Nat.reduceLeDiff,reduceIte,reduceCtorEq,Nat.reduceBEq,i64,reEl,Re.cells_eq re,iD,bD,bV,h0,h3,hkp]
   simp only[eszNode,hkp',or_true,if_true]
  | false =>
   have hkp':(decide (re.mn=0)&&(decide (re.mx=-1)||decide (re.mx=1)))=false:=hkp
   by_cases m1:re.mx=-1
   ·by_cases hp:1 < IntKind.i64.wrap (min (max re.mn 0) 4097 + 1)
    ·simp only[zW,Nat.reduceShiftRight,Nat.reduceMod,Nat.reduceLT,Nat.reduceMul,Nat.reduceSub,Int.reduceToNat,Int.reduceNeg,Int.reduceLT,Int.reduceLE,Int.reduceEq,Nat.reduceEqDiff,Nat.reduceAdd,Nat.reduceLeDiff,reduceIte,reduceCtorEq,Nat.reduceBEq,i64,reEl,Re.cells_eq re,iD,bD,bV,h0,h3,hkp,m1,hp]
     rw[eszNode,if_neg (by first | (rw[hkp']; simp [o4]) | (rw[m1] at hkp'; rw[hkp']; simp))]; simp [m1,hp]
    ·simp only[zW,Nat.reduceShiftRight,Nat.reduceMod,Nat.reduceLT,Nat.reduceMul,Nat.reduceSub,Int.reduceToNat,Int.reduceNeg,Int.reduceLT,Int.reduceLE,Int.reduceEq,Nat.reduceEqDiff,Nat.reduceAdd,Nat.reduceLeDiff,reduceIte,reduceCtorEq,Nat.reduceBEq,i64,reEl,Re.cells_eq re,iD,bD,bV,h0,h3,hkp,m1,hp]
     rw[eszNode,if_neg (by first | (rw[hkp']; simp [o4]) | (rw[m1] at hkp'; rw[hkp']; simp))]; simp [m1,hp]
   ·simp only[zW,Nat.reduceShiftRight,Nat.reduceMod,Nat.reduceLT,Nat.reduceMul,Nat.reduceSub,Int.reduceToNat,Int.reduceNeg,Int.reduceLT,Int.reduceLE,Int.reduceEq,Nat.reduceEqDiff,Nat.reduceAdd,Nat.reduceLeDiff,reduceIte,reduceCtorEq,Nat.reduceBEq,i64,reEl,Re.cells_eq re,iD,bD,bV,h0,h3,hkp,m1]
    refine draw_c mix [] [] (by rfl) ?_
    by_cases hmo:0 < min (IntKind.i64.wrap (re.mx - re.mn)) 4097
    ·by_cases hp:1 < IntKind.i64.wrap (min (max re.mn 0) 4097 + 1)
     ·simp only[zW,Nat.reduceShiftRight,Nat.reduceMod,Nat.reduceLT,Nat.reduceMul,Nat.reduceSub,Int.reduceToNat,Int.reduceNeg,Int.reduceLT,Int.reduceLE,Int.reduceEq,Nat.reduceEqDiff,Nat.reduceAdd,Nat.reduceLeDiff,reduceIte,reduceCtorEq,Nat.reduceBEq,i64,reEl,Re.cells_eq re,iD,bD,bV,h0,h3,hkp,m1,hmo,hp]
      rw[eszNode,if_neg (by first | (rw[hkp']; simp [o4]) | (rw[m1] at hkp'; rw[hkp']; simp))]; simp [m1,hmo,hp]
     ·simp only[zW,Nat.reduceShiftRight,Nat.reduceMod,Nat.reduceLT,Nat.reduceMul,Nat.reduceSub,Int.reduceToNat,Int.reduceNeg,Int.reduceLT,Int.reduceLE,Int.reduceEq,Nat.reduceEqDiff,Nat.reduceAdd,Nat.reduceLeDiff,reduceIte,reduceCtorEq,Nat.reduceBEq,i64,reEl,Re.cells_eq re,iD,bD,bV,h0,h3,hkp,m1,hmo,hp]
      rw[eszNode,if_neg (by first | (rw[hkp']; simp [o4]) | (rw[m1] at hkp'; rw[hkp']; simp))]; simp [m1,hmo,hp]
    ·by_cases hp:1 < min (max re.mn 0) 4097
     ·simp only[zW,Nat.reduceShiftRight,Nat.reduceMod,Nat.reduceLT,Nat.reduceMul,Nat.reduceSub,Int.reduceToNat,Int.reduceNeg,Int.reduceLT,Int.reduceLE,Int.reduceEq,Nat.reduceEqDiff,Nat.reduceAdd,Nat.reduceLeDiff,reduceIte,reduceCtorEq,Nat.reduceBEq,i64,reEl,Re.cells_eq re,iD,bD,bV,h0,h3,hkp,m1,hmo,hp]
      rw[eszNode,if_neg (by first | (rw[hkp']; simp [o4]) | (rw[m1] at hkp'; rw[hkp']; simp))]; simp [m1,hmo,hp]
     ·simp only[zW,Nat.reduceShiftRight,Nat.reduceMod,Nat.reduceLT,Nat.reduceMul,Nat.reduceSub,Int.reduceToNat,Int.reduceNeg,Int.reduceLT,Int.reduceLE,Int.reduceEq,Nat.reduceEqDiff,Nat.reduceAdd,Nat.reduceLeDiff,reduceIte,reduceCtorEq,Nat.reduceBEq,i64,reEl,Re.cells_eq re,iD,bD,bV,h0,h3,hkp,m1,hmo,hp]
      rw[eszNode,if_neg (by first | (rw[hkp']; simp [o4]) | (rw[m1] at hkp'; rw[hkp']; simp))]; simp [m1,hmo,hp]
 ·simp only[zW,Nat.reduceShiftRight,Nat.reduceMod,Nat.reduceLT,Nat.reduceMul,Nat.reduceSub,Int.reduceToNat,Int.reduceNeg,Int.reduceLT,Int.reduceLE,Int.reduceEq,Nat.reduceEqDiff,Nat.reduceAdd,Nat.reduceLeDiff,reduceIte,reduceCtorEq,Nat.reduceBEq,i64,reEl,Re.cells_eq re,iD,bD,bV,h0,h3,h13,h14,Nat.lt_irrefl,o4]
  simp [eszNode,o4]
def nodeV (re:Re) (v:V):V:=.ag [i64 re.op,.d (.sl (re.set.map spanC)),v,i64 re.mn,i64 re.mx,i64 re.mode,i64 re.n,bV re.neg]
theorem clone0_ok (re:Re) (hs:re.set.length≤1000000000):PureOK prog 38 [nodeV re (.fu [])] (nodeV re (.fu [])):=by
 refine fn_keep func38 rfl ntmps38 results38 rfl 0 57391 (by simp) (by simp) ?_
 simp only[zW,Nat.reduceShiftRight,Nat.reduceMod,Nat.reduceLT,Nat.reduceMul,Nat.reduceSub,Int.reduceToNat,Int.reduceNeg,Int.reduceLT,Int.reduceLE,Int.reduceEq,Nat.reduceEqDiff,Nat.reduceAdd,Nat.reduceLeDiff,reduceIte,reduceCtorEq,Nat.reduceBEq,nodeV,i64,bV]
 refine call_pure (cloneSpans_ok re.set hs) (by simp [refsV,refsV.go,reV_eq,i64,bV,reEl]) (by simp [refsV,refsV.go,reV_eq,i64,bV,reEl]) ?_
 simp only[zW,Nat.reduceShiftRight,Nat.reduceMod,Nat.reduceLT,Nat.reduceMul,Nat.reduceSub,Int.reduceToNat,Int.reduceNeg,Int.reduceLT,Int.reduceLE,Int.reduceEq,Nat.reduceEqDiff,Nat.reduceAdd,Nat.reduceLeDiff,reduceIte,reduceCtorEq,Nat.reduceBEq,nodeV,i64,bV]
 refine loop_rule (fun n e s=>n=0∧e 1=.rf 0 0 0 0∧e 2=.rf 1 0 0 0∧e 14=i64 0∧e 15=i64 0∧s=[cloneO re (.fu []),zeroO])
  ⟨_,_,_,Cln.refl,rfl,rfl,rfl,rfl,rfl,rfl⟩ ?_
 rintro n e s ⟨rfl,h1,h2,h14,h15,rfl⟩
 simp only[zW,Nat.reduceShiftRight,Nat.reduceMod,Nat.reduceLT,Nat.reduceMul,Nat.reduceSub,Int.reduceToNat,Int.reduceNeg,Int.reduceLT,Int.reduceLE,Int.reduceEq,Nat.reduceEqDiff,Nat.reduceAdd,Nat.reduceLeDiff,reduceIte,reduceCtorEq,Nat.reduceBEq,h1,h2,h14,h15,i64,bV,cloneO,zeroO,Nat.lt_irrefl,Qkeep_app,keepWp,refsV,refsV.go,Int.lt_irrefl]
 all_goals first | exact⟨rfl,rfl⟩ | exact⟨rfl,trivial⟩ | rfl | trivial | (rw[reV_eq]; rfl)
mutual
def Re.exp:Re→Re
 | .mk op set kids mn mx mode n neg =>
  if op=4∧(decide (mn=0)&&(decide (mx=-1)||decide (mx=1)))=false then unrollR (.mk op set kids mn mx mode n neg) ((Re.expL kids).headD (.mk 0 [] [] 0 0 0 0 false))
  else .mk op set (Re.expL kids) mn mx mode n neg
def Re.expL:List Re→List Re
 | []=>[]
 | k::l=>k.exp::Re.expL l
end
theorem Re.expL_eq:∀l:List Re,Re.expL l=l.map Re.exp
 | []=>by simp [Re.expL]
 | k::l=>by simp [Re.expL,Re.expL_eq l]
def Re.out (re:Re):Re:=.mk re.op re.set (re.kids.map Re.exp) re.mn re.mx re.mode re.n re.neg
theorem Re.exp_keep {re:Re} (h:re.op≠4∨re.kept=true):re.exp=re.out:=by
 cases re with
 | mk op set kids mn mx mode n neg =>
  have:¬(op=4∧(decide (mn=0)&&(decide (mx=-1)||decide (mx=1)))=false):=by
   rintro ⟨h1,h2⟩
   rcases h with h | h
   ·exact h h1
   ·have h':(decide (mn=0)&&(decide (mx=-1)||decide (mx=1)))=true:=h
    rw[h2] at h'; cases h'
  rw[Re.exp,if_neg this,Re.expL_eq]; rfl
theorem Re.exp_un {re:Re} (h4:re.op=4) (hk:re.kept=false) {k:Re} {l:List Re} (hl:re.kids=k::l):re.exp=unrollR re k.exp:=by
 cases re with
 | mk op set kids mn mx mode n neg =>
  have h':(decide (mn=0)&&(decide (mx=-1)||decide (mx=1)))=false:=hk
  have hl':kids=k::l:=hl
  rw[Re.exp,if_pos ⟨h4,h'⟩,hl']
  rfl
def exNode (re:Re):Prop:=re.op=4→re.kept=false→(re.kids≠[]∧0≤re.mn∧re.mn≤1000000∧-1≤re.mx∧re.mx≤1000000)
def ExpOK (re:Re):Prop:=callWp prog 80 [reV re,.rf 0 0 0 0] [cellO 80] fun v s=>v=reV re.exp∧s=[cellO 80]
theorem exp_step (re:Re) (hs:re.fine=true) (ih:∀k∈re.kids,ExpOK k) (hx:∀k∈re.kids,k.exp.fine=true) (hn:exNode re):ExpOK re:=by
 obtain⟨hset1,hlen,hfk⟩:=Re.fine_spec hs
 have hcl:=clone0_ok re hset1
 simp only[nodeV,i64,bV] at hcl
 have hkc:=kept_ok re
 rw[reEl,Re.cells_eq re] at hkc
 simp only[iD,bD,bV] at hkc
 unfold ExpOK
 refine fn_ok func80 rfl ntmps80 results80 rfl 1 117440607 (by simp) (by simp) ?_
 simp only[zW,Nat.reduceShiftRight,Nat.reduceMod,Nat.reduceLT,Nat.reduceMul,Nat.reduceSub,Int.reduceToNat,Int.reduceNeg,Int.reduceLT,Int.reduceLE,Int.reduceEq,Nat.reduceEqDiff,Nat.reduceAdd,Nat.reduceLeDiff,reduceIte,reduceCtorEq,Nat.reduceBEq,i64,reV_eq re,iD,bD,cellO,bV]
 refine call_pure hcl rfl rfl ?_
 simp only[zW,Nat.reduceShiftRight,Nat.reduceMod,Nat.reduceLT,Nat.reduceMul,Nat.reduceSub,Int.reduceToNat,Int.reduceNeg,Int.reduceLT,Int.reduceLE,Int.reduceEq,Nat.reduceEqDiff,Nat.reduceAdd,Nat.reduceLeDiff,reduceIte,reduceCtorEq,Nat.reduceBEq,i64,bV]
 refine loop_rule (fun n e s=>∃i:Nat,n=re.kids.length - i∧i≤re.kids.length∧e 1=.rf 0 0 0 0∧e 2=.rf 1 0 0 0∧e 3=.rf 2 0 0 0∧e 4=.rf 3 0 0 0∧e 24=.d (.sl (re.kids.map Re.cells))∧e 25=i64 re.kids.length∧e 26=i64 i ∧
   ((i=0∧s=[cellO 80,cloneO re (.d (.sl (re.kids.map Re.cells))),zeroO,cloneO re (.fu [])]) ∨
    ∃g X,objOk 6 X=true∧s=[cellO 80,cloneO re (.d (.sl (re.kids.map Re.cells))),zeroO,cloneO re (.so 5 g 0 i),X,arrO g ((re.kids.take i).map Re.exp)]))
  ⟨_,_,_,Cln.refl,0,rfl,by omega,rfl,rfl,rfl,rfl,rfl,rfl,rfl,.inl ⟨rfl,rfl⟩⟩ ?_
 rintro n e s ⟨i,rfl,hi,h1,h2,h3,h4,h24,h25,h26,hacc⟩
 rcases Nat.lt_or_ge i re.kids.length with hlt | hge
 ·obtain⟨k,hk⟩:∃k,re.kids[i]?=some k:=⟨_,List.getElem?_eq_getElem hlt⟩
  have hm:=List.mem_of_getElem? hk
  have htk:(re.kids.take (i + 1)).map Re.exp=(re.kids.take i).map Re.exp++[k.exp]:=by rw[take_get hk]; simp
  rcases hacc with ⟨rfl,rfl⟩ | ⟨g,X,hX,rfl⟩
  ·simp only[zW,Nat.reduceShiftRight,Nat.reduceMod,Nat.reduceLT,Nat.reduceMul,Nat.reduceSub,Int.reduceToNat,Int.reduceNeg,Int.reduceLT,Int.reduceLE,Int.reduceEq,Nat.reduceEqDiff,Nat.reduceAdd,Nat.reduceLeDiff,reduceIte,reduceCtorEq,Nat.reduceBEq,h1,h2,h3,h4,h24,h25,h26,i64,bV,hlt,hk,cloneO,zeroO,cellO]
   refine draw_c mix [6,8] [(2,[0],[]),(4,[0],[0])] (by rfl) ?_
   simp only[zW,Nat.reduceShiftRight,Nat.reduceMod,Nat.reduceLT,Nat.reduceMul,Nat.reduceSub,Int.reduceToNat,Int.reduceNeg,Int.reduceLT,Int.reduceLE,Int.reduceEq,Nat.reduceEqDiff,Nat.reduceAdd,Nat.reduceLeDiff,reduceIte,reduceCtorEq,Nat.reduceBEq,h1,h2,h3,h4,h24,h25,h26,i64,bV]
   refine callF_one (ih k hm) (by simp [renV,renV_reV]) (by simp [refsV,refsV.go,reV_eq,i64,bV,reEl]) rfl rfl rfl (renV_reV _ _) ?_
   simp only[zW,Nat.reduceShiftRight,Nat.reduceMod,Nat.reduceLT,Nat.reduceMul,Nat.reduceSub,Int.reduceToNat,Int.reduceNeg,Int.reduceLT,Int.reduceLE,Int.reduceEq,Nat.reduceEqDiff,Nat.reduceAdd,Nat.reduceLeDiff,reduceIte,reduceCtorEq,Nat.reduceBEq,h1,h2,h3,h4,h24,h25,h26,i64,bV]
   refine⟨fun x hx=>by rw[List.mem_singleton.1 hx]; simp [Re.cells_len],by simp,re.kids.length - 1,_,_,by omega,Cln.refl,1,rfl,by omega,?_,?_,?_,?_,?_,?_,?_,.inr ⟨0,_,?_,by rw[htk]; rfl⟩⟩ <;> (try simp only[zU,Nat.reduceBEq,Nat.reduceShiftRight,Nat.reduceMod,Nat.reduceEqDiff,reduceIte])
   ·exact h1
   ·exact h2
   ·exact h3
   ·exact h4
   ·exact h24
   ·exact h25
   ·rw[w64 _ (by omega)]; rfl
   ·simp [refsV]
  ·simp only[zW,Nat.reduceShiftRight,Nat.reduceMod,Nat.reduceLT,Nat.reduceMul,Nat.reduceSub,Int.reduceToNat,Int.reduceNeg,Int.reduceLT,Int.reduceLE,Int.reduceEq,Nat.reduceEqDiff,Nat.reduceAdd,Nat.reduceLeDiff,reduceIte,reduceCtorEq,Nat.reduceBEq,h1,h2,h3,h4,h24,h25,h26,i64,bV,hlt,hk,cloneO,zeroO,cellO,arrO]
   refine draw_c mix [6,8] [(2,[0],[]),(4,[0],[0])] (by rfl) ?_
   simp only[zW,Nat.reduceShiftRight,Nat.reduceMod,Nat.reduceLT,Nat.reduceMul,Nat.reduceSub,Int.reduceToNat,Int.reduceNeg,Int.reduceLT,Int.reduceLE,Int.reduceEq,Nat.reduceEqDiff,Nat.reduceAdd,Nat.reduceLeDiff,reduceIte,reduceCtorEq,Nat.reduceBEq,h1,h2,h3,h4,h24,h25,h26,i64,bV]
   refine callF_one (ih k hm) (by simp [renV,renV_reV]) (by simp [refsV,refsV.go,reV_eq,i64,bV,reEl]) rfl rfl rfl (renV_reV _ _) ?_
   simp only[zW,Nat.reduceShiftRight,Nat.reduceMod,Nat.reduceLT,Nat.reduceMul,Nat.reduceSub,Int.reduceToNat,Int.reduceNeg,Int.reduceLT,Int.reduceLE,Int.reduceEq,Nat.reduceEqDiff,Nat.reduceAdd,Nat.reduceLeDiff,reduceIte,reduceCtorEq,Nat.reduceBEq,h1,h2,h3,h4,h24,h25,h26,i64,bV]
   have hcut:(((((re.kids.take i).map Re.exp).map Re.cells).map fun c=>c.map V.d).take i)=(((re.kids.take i).map Re.exp).map Re.cells).map fun c=>c.map V.d:=List.take_of_length_le (by simp; omega)
   rw[hcut]
   refine⟨fun x hx=>by rw[List.mem_singleton.1 hx]; simp [Re.cells_len],⟨by simp; omega,by omega⟩,re.kids.length - (i + 1),_,_,by omega,Cln.cut 6 (by omega) rfl ?_ [1,2,3,4,24,25,26] ?_,i + 1,rfl,by omega,?_,?_,?_,?_,?_,?_,?_,.inr ⟨g + 1,X,hX,?_⟩⟩ <;> (try simp only[zU,Nat.reduceBEq,Nat.reduceShiftRight,Nat.reduceMod,Nat.reduceEqDiff,reduceIte])
   ·simp only[objOk] at hX
    simp [objOk,refsV,refsV.go,hX,cellO]
    intro x hx y hy
    obtain⟨r,_,rfl⟩:=List.mem_map.1 (List.mem_of_mem_take hx)
    obtain⟨d,_,rfl⟩:=List.mem_map.1 hy
    rfl
   ·simp [updE,trimE_app,refsV,h1,h2,h3,h4,h24,h25,i64]
   ·exact h1
   ·exact h2
   ·exact h3
   ·exact h4
   ·exact h24
   ·exact h25
   ·rw[w64 _ (by omega)]; rfl
   ·rw[htk]
    simp [cellO]
 have hie:i=re.kids.length:=by omega
 subst hie
 by_cases o4:re.op=4
 ·cases hkp:re.kept with
  | true =>
   rw[Re.exp_keep (.inr hkp)]
   rcases hacc with ⟨hz,rfl⟩ | ⟨g,X,hX,rfl⟩
   ·simp only[zW,Nat.reduceShiftRight,Nat.reduceMod,Nat.reduceLT,Nat.reduceMul,Nat.reduceSub,Int.reduceToNat,Int.reduceNeg,Int.reduceLT,Int.reduceLE,Int.reduceEq,Nat.reduceEqDiff,Nat.reduceAdd,Nat.reduceLeDiff,reduceIte,reduceCtorEq,Nat.reduceBEq,h1,h2,h3,h4,h24,h25,h26,i64,bV,cloneO,zeroO,cellO,arrO,Nat.lt_irrefl,o4]
    refine call_give [1] rfl ?_
    refine call_pure (o4 ▸ hkc) rfl rfl ?_
    simp only[zW,Nat.reduceShiftRight,Nat.reduceMod,Nat.reduceLT,Nat.reduceMul,Nat.reduceSub,Int.reduceToNat,Int.reduceNeg,Int.reduceLT,Int.reduceLE,Int.reduceEq,Nat.reduceEqDiff,Nat.reduceAdd,Nat.reduceLeDiff,reduceIte,reduceCtorEq,Nat.reduceBEq,h1,h2,h3,h4,h24,h25,h26,i64,bV,cloneO,zeroO,cellO,arrO,hkp,killO,kill1]
    have hk0:re.kids=[]:=List.eq_nil_of_length_eq_zero hz
    rw[reV_eq,show re.out.op=4 from o4,show re.out.kids=re.kids.map Re.exp from rfl,hk0]
    rfl
   ·simp only[zW,Nat.reduceShiftRight,Nat.reduceMod,Nat.reduceLT,Nat.reduceMul,Nat.reduceSub,Int.reduceToNat,Int.reduceNeg,Int.reduceLT,Int.reduceLE,Int.reduceEq,Nat.reduceEqDiff,Nat.reduceAdd,Nat.reduceLeDiff,reduceIte,reduceCtorEq,Nat.reduceBEq,h1,h2,h3,h4,h24,h25,h26,i64,bV,cloneO,zeroO,cellO,arrO,Nat.lt_irrefl,o4]
    refine call_give [1] rfl ?_
    refine call_pure (o4 ▸ hkc) rfl rfl ?_
    simp only[zW,Nat.reduceShiftRight,Nat.reduceMod,Nat.reduceLT,Nat.reduceMul,Nat.reduceSub,Int.reduceToNat,Int.reduceNeg,Int.reduceLT,Int.reduceLE,Int.reduceEq,Nat.reduceEqDiff,Nat.reduceAdd,Nat.reduceLeDiff,reduceIte,reduceCtorEq,Nat.reduceBEq,h1,h2,h3,h4,h24,h25,h26,i64,bV,cloneO,zeroO,cellO,arrO,hkp,killO,kill1]
    rw[List.take_length,frz_data 7 1 _ _ _ (by simp),if_pos (by omega),reV_eq,show re.out.op=4 from o4]
    rfl
  | false =>
   obtain⟨hne,n0,n1,n2,n3⟩:=hn o4 hkp
   obtain⟨k,l,hkl⟩:=List.exists_cons_of_ne_nil hne
   rw[Re.exp_un o4 hkp hkl]
   have hun:=unroll_ok re k.exp (hx k (by rw[hkl]; simp)) n0 n1 n2 n3
   rw[reEl,Re.cells_eq re] at hun
   simp only[iD,bD] at hun
   have hp0:0 < re.kids.length:=by rw[hkl]; simp
   have hp0':(0:Int) < (re.kids.length:Int):=by omega
   have hk0:(re.kids.take re.kids.length)[0]?=some k:=by rw[List.take_length,hkl]; rfl
   rcases hacc with ⟨hz,rfl⟩ | ⟨g,X,hX,rfl⟩
   ·omega
   ·simp only[zW,Nat.reduceShiftRight,Nat.reduceMod,Nat.reduceLT,Nat.reduceMul,Nat.reduceSub,Int.reduceToNat,Int.reduceNeg,Int.reduceLT,Int.reduceLE,Int.reduceEq,Nat.reduceEqDiff,Nat.reduceAdd,Nat.reduceLeDiff,reduceIte,reduceCtorEq,Nat.reduceBEq,h1,h2,h3,h4,h24,h25,h26,i64,bV,cloneO,zeroO,cellO,arrO,Nat.lt_irrefl,o4]
    refine call_give [1] rfl ?_
    refine call_pure (o4 ▸ hkc) rfl rfl ?_
    simp only[zW,Nat.reduceShiftRight,Nat.reduceMod,Nat.reduceLT,Nat.reduceMul,Nat.reduceSub,Int.reduceToNat,Int.reduceNeg,Int.reduceLT,Int.reduceLE,Int.reduceEq,Nat.reduceEqDiff,Nat.reduceAdd,Nat.reduceLeDiff,reduceIte,reduceCtorEq,Nat.reduceBEq,h1,h2,h3,h4,h24,h25,h26,i64,bV,cloneO,zeroO,cellO,arrO,hkp,killO,kill1,hp0,hp0',hk0]
    refine call_give [1] ?_ (call_pure (o4 ▸ hun) (by simp [refsV,refsV.go,reV_eq]) (by simp [refsV,refsV.go,reV_eq,i64,bV,reEl]) ?_)
    ·rw[reV_eq k.exp]; rfl
    simp only[zW,Nat.reduceShiftRight,Nat.reduceMod,Nat.reduceLT,Nat.reduceMul,Nat.reduceSub,Int.reduceToNat,Int.reduceNeg,Int.reduceLT,Int.reduceLE,Int.reduceEq,Nat.reduceEqDiff,Nat.reduceAdd,Nat.reduceLeDiff,reduceIte,reduceCtorEq,Nat.reduceBEq,h1,h2,h3,h4,h24,h25,h26,i64,bV,cloneO,zeroO,cellO,arrO,killO,kill1]
    all_goals first | exact⟨rfl,rfl⟩ | exact⟨rfl,trivial⟩ | rfl | trivial | (rw[reV_eq]; rfl)
 ·rw[Re.exp_keep (.inl o4)]
  rcases hacc with ⟨hz,rfl⟩ | ⟨g,X,hX,rfl⟩
  ·simp only[zW,Nat.reduceShiftRight,Nat.reduceMod,Nat.reduceLT,Nat.reduceMul,Nat.reduceSub,Int.reduceToNat,Int.reduceNeg,Int.reduceLT,Int.reduceLE,Int.reduceEq,Nat.reduceEqDiff,Nat.reduceAdd,Nat.reduceLeDiff,reduceIte,reduceCtorEq,Nat.reduceBEq,h1,h2,h3,h4,h24,h25,h26,i64,bV,cloneO,zeroO,cellO,arrO,Nat.lt_irrefl,o4]
   have hk0:re.kids=[]:=List.eq_nil_of_length_eq_zero hz
   rw[Re.out,hk0,reV_eq]
   rfl
  ·simp only[zW,Nat.reduceShiftRight,Nat.reduceMod,Nat.reduceLT,Nat.reduceMul,Nat.reduceSub,Int.reduceToNat,Int.reduceNeg,Int.reduceLT,Int.reduceLE,Int.reduceEq,Nat.reduceEqDiff,Nat.reduceAdd,Nat.reduceLeDiff,reduceIte,reduceCtorEq,Nat.reduceBEq,h1,h2,h3,h4,h24,h25,h26,i64,bV,cloneO,zeroO,cellO,arrO,Nat.lt_irrefl,o4]
   rw[List.take_length,frz_data 7 1 _ _ _ (by simp),if_pos (by omega),reV_eq]
   rfl
mutual
def Re.every (p:Re→Bool):Re→Bool
 | .mk op set kids mn mx mode n neg=>p (.mk op set kids mn mx mode n neg)&&Re.everyL p kids
def Re.everyL (p:Re→Bool):List Re→Bool
 | []=>true
 | k::l=>Re.every p k&&Re.everyL p l
end
theorem Re.everyL_all (p:Re→Bool):∀l:List Re,Re.everyL p l=l.all (Re.every p)
 | []=>rfl
 | k::l=>by simp [Re.everyL,Re.everyL_all p l]
theorem Re.every_iff {p:Re→Bool} (re:Re):re.every p=true ↔ p re=true∧∀k∈re.kids,k.every p=true:=by
 cases re with
 | mk op set kids mn mx mode n neg=>simp only[Re.every,Bool.and_eq_true,Re.everyL_all,List.all_eq_true,Re.kids]
def exq (re:Re):Bool:=decide (re.set.length≤1000000000∧re.kids.length≤1000000000∧(re.op=4→0≤re.mn∧re.mn≤1000000∧-1≤re.mx∧re.mx≤1000000))
theorem fine_of_exq (re:Re) (h:re.every exq=true):re.fine=true:=by
 revert h
 refine Re.ind (Q:=fun re=>re.every exq=true→re.fine=true) (fun re ih h=>?_) re
 obtain⟨h1,h2⟩:=(Re.every_iff re).1 h
 have h1:=of_decide_eq_true h1
 exact(Re.fine_iff re).2 ⟨h1.1,h1.2.1,fun k hk=>ih k hk (h2 k hk)⟩
theorem rept_fine {x:Re} (h:x.fine=true) (most mode:Int):(rept x most mode).fine=true:=by
 rw[Re.fine_iff]
 refine⟨by simp [rept,Re.set],by simp [rept,Re.kids],fun k hk=>?_⟩
 have:k=x:=by simpa [rept,Re.kids] using hk
 rw[this]; exact h
theorem join_fine {l:List Re} (h:∀x∈l,x.fine=true) (hl:l.length≤1000000000):(joinR l).fine=true:=by
 unfold joinR
 split
 ·exact h _ (by simp)
 ·rw[Re.fine_iff]
  exact⟨by simp [Re.set],hl,h⟩
theorem rest_fine {x:Re} (h:x.fine=true) (mode:Int):∀j,(restR mode x j).fine=true
 | 0=>rept_fine h _ _
 | j + 1=>rept_fine (join_fine (fun y hy=>by
   rcases List.mem_cons.1 hy with rfl | hy
   ·exact h
   ·rw[List.mem_singleton.1 hy]; exact rest_fine h mode j) (by simp)) _ _
theorem unroll_fine {re x:Re} (h:x.fine=true) (h0:0≤re.mn) (h1:re.mn≤1000000):(unrollR re x).fine=true:=by
 unfold unrollR
 have hn:re.mn.toNat≤1000000:=by omega
 refine join_fine (fun y hy=>?_) ?_
 ·rcases List.mem_append.1 hy with hy | hy
  ·rw[(List.mem_replicate.1 hy).2]; exact h
  ·split at hy
   ·rw[List.mem_singleton.1 hy]; exact rept_fine h _ _
   ·split at hy
    ·rw[List.mem_singleton.1 hy]; exact rest_fine h _ _
    ·cases hy
 ·rw[List.length_append,List.length_replicate]
  split
  ·simp; omega
  ·split <;> simp <;> omega
theorem exa_spec {re:Re} (h:re.exa=true):(re.op=4→re.kids.length=1)∧∀k∈re.kids,k.exa=true:=by
 rw[Re.exa_eq,Bool.and_eq_true,List.all_eq_true] at h
 refine⟨fun o=>?_,h.2⟩
 have h1:=h.1
 simp only[exaNode,o] at h1
 by_cases hl:re.kids.length=1
 ·exact hl
 ·simp [hl] at h1
theorem exp_both (re:Re) (h:re.every exq=true) (ha:re.exa=true):re.exp.fine=true∧ExpOK re:=by
 revert h ha
 refine Re.ind (Q:=fun re=>re.every exq=true→re.exa=true→re.exp.fine=true∧ExpOK re) (fun re ih h ha=>?_) re
 have hf:=fine_of_exq re h
 obtain⟨h1,h2⟩:=(Re.every_iff re).1 h
 have h1:=of_decide_eq_true h1
 obtain⟨a1,a2⟩:=exa_spec ha
 have hx:∀k∈re.kids,k.exp.fine=true:=fun k hk=>(ih k hk (h2 k hk) (a2 k hk)).1
 have hn:exNode re:=fun o _=>⟨fun he=>(by have:=a1 o; rw[he] at this; cases this),h1.2.2 o⟩
 refine⟨?_,exp_step re hf (fun k hk=>(ih k hk (h2 k hk) (a2 k hk)).2) hx hn⟩
 by_cases hk:re.op=4∧re.kept=false
 ·obtain⟨hne,n0,n1,_,_⟩:=hn hk.1 hk.2
  obtain⟨k,l,hkl⟩:=List.exists_cons_of_ne_nil hne
  rw[Re.exp_un hk.1 hk.2 hkl]
  exact unroll_fine (hx k (by rw[hkl]; simp)) n0 n1
 ·rw[Re.exp_keep (by
   by_cases o:re.op=4
   ·right; cases hkk:re.kept with
    | true=>rfl
    | false=>exact absurd ⟨o,hkk⟩ hk
   ·exact .inl o),Re.fine_iff]
  refine⟨h1.1,by simpa [Re.out,Re.kids] using h1.2.1,fun y hy=>?_⟩
  obtain⟨k,hk,rfl⟩:=List.mem_map.1 (show y∈re.kids.map Re.exp from hy)
  exact hx k hk
def zeroR:Re:=.mk 0 [] [] 0 0 0 0 false
def expandR (re:Re):Re × Int:=if re.exa=false then (zeroR,10) else if 4096 < re.esz then (zeroR,4) else (re.exp,0)
theorem expand_ok (re:Re) (h:re.every exq=true):PureOK prog 41 [reV re] (.tu [reV (expandR re).1,i64 (expandR re).2]):=by
 have hf:=fine_of_exq re h
 have hea:=expandable_ok re hf
 have hes:=expandedSize_ok re hf
 rw[reEl,Re.cells_eq re] at hea hes
 simp only[iD,bD,bV,i64] at hea hes
 refine fn_ok func41 rfl ntmps41 results41 rfl 0 31 (by simp) (by simp) ?_
 simp only[zW,Nat.reduceShiftRight,Nat.reduceMod,Nat.reduceLT,Nat.reduceMul,Nat.reduceSub,Int.reduceToNat,Int.reduceNeg,Int.reduceLT,Int.reduceLE,Int.reduceEq,Nat.reduceEqDiff,Nat.reduceAdd,Nat.reduceLeDiff,reduceIte,reduceCtorEq,Nat.reduceBEq,i64,reV_eq re,iD,bD]
 refine call_give [0] rfl ?_
 refine call_pure hea rfl rfl ?_
 cases hx:re.exa with
 | false =>
  simp only[zW,Nat.reduceShiftRight,Nat.reduceMod,Nat.reduceLT,Nat.reduceMul,Nat.reduceSub,Int.reduceToNat,Int.reduceNeg,Int.reduceLT,Int.reduceLE,Int.reduceEq,Nat.reduceEqDiff,Nat.reduceAdd,Nat.reduceLeDiff,reduceIte,reduceCtorEq,Nat.reduceBEq,hx,killO,kill1,i64]
  rw[expandR,if_pos hx,zeroR,reV_eq]
  rfl
 | true =>
  have hx':¬re.exa=false:=by rw[hx]; decide
  obtain⟨_,hok⟩:=exp_both re h hx
  unfold ExpOK at hok
  rw[reV_eq re] at hok
  simp only[iD,bD] at hok
  simp only[zW,Nat.reduceShiftRight,Nat.reduceMod,Nat.reduceLT,Nat.reduceMul,Nat.reduceSub,Int.reduceToNat,Int.reduceNeg,Int.reduceLT,Int.reduceLE,Int.reduceEq,Nat.reduceEqDiff,Nat.reduceAdd,Nat.reduceLeDiff,reduceIte,reduceCtorEq,Nat.reduceBEq,hx,killO,kill1,i64]
  refine call_give [0] rfl ?_
  refine call_pure hes rfl rfl ?_
  by_cases hz:4096 < re.esz
  ·simp only[zW,Nat.reduceShiftRight,Nat.reduceMod,Nat.reduceLT,Nat.reduceMul,Nat.reduceSub,Int.reduceToNat,Int.reduceNeg,Int.reduceLT,Int.reduceLE,Int.reduceEq,Nat.reduceEqDiff,Nat.reduceAdd,Nat.reduceLeDiff,reduceIte,reduceCtorEq,Nat.reduceBEq,hx,killO,kill1,i64,hz]
   rw[expandR,if_neg hx',if_pos hz,zeroR,reV_eq]
   rfl
  ·simp only[zW,Nat.reduceShiftRight,Nat.reduceMod,Nat.reduceLT,Nat.reduceMul,Nat.reduceSub,Int.reduceToNat,Int.reduceNeg,Int.reduceLT,Int.reduceLE,Int.reduceEq,Nat.reduceEqDiff,Nat.reduceAdd,Nat.reduceLeDiff,reduceIte,reduceCtorEq,Nat.reduceBEq,hx,killO,kill1,i64,hz]
   rw[expandR,if_neg hx',if_neg hz]
   refine call_at (r':=reV re.exp) 2 hok rfl rfl rfl rfl (renV_reV _ _) ?_
   simp only[zW,Nat.reduceShiftRight,Nat.reduceMod,Nat.reduceLT,Nat.reduceMul,Nat.reduceSub,Int.reduceToNat,Int.reduceNeg,Int.reduceLT,Int.reduceLE,Int.reduceEq,Nat.reduceEqDiff,Nat.reduceAdd,Nat.reduceLeDiff,reduceIte,reduceCtorEq,Nat.reduceBEq,killO,kill1,renO,renV,renV.go,cellO,i64]
   simp only[zW,Nat.reduceShiftRight,Nat.reduceMod,Nat.reduceLT,Nat.reduceMul,Nat.reduceSub,Int.reduceToNat,Int.reduceNeg,Int.reduceLT,Int.reduceLE,Int.reduceEq,Nat.reduceEqDiff,Nat.reduceAdd,Nat.reduceLeDiff,reduceIte,reduceCtorEq,Nat.reduceBEq,reV_eq re.exp,iD,bD]
   all_goals first | exact⟨rfl,rfl⟩ | exact⟨rfl,trivial⟩ | rfl | trivial | (rw[reV_eq]; rfl)
def ordP (re:Re) (l:List (Int × Int)):List Int:=[re.op,re.set.length]++l.flatMap fun s=>[s.1,s.2]
def ordL (re:Re):List Int:=ordP re re.set++[re.mn,re.mx,re.mode,re.n,if re.neg then 1 else 0,re.kids.length]
def boxR (x:Re):VL.Obj:=⟨0,true,8,[x.cells.map .d]⟩
def intArr (g:Nat) (l:List Int):VL.Obj:=⟨g,true,1,(l.map fun x=>[iD x]).map fun c=>c.map V.d⟩
theorem ordP_len (re:Re) (l:List (Int × Int)):(ordP re l).length=2 + 2 * l.length:=by
 simp only[ordP,List.length_append,List.length_cons,List.length_nil]
 induction l with
 | nil=>simp
 | cons x l ih=>simp only[List.flatMap_cons,List.length_append,List.length_cons,List.length_nil] at ih ⊢; omega
theorem ordP_snoc (re:Re) (l:List (Int × Int)) (x:Int × Int):ordP re (l++[x])=ordP re l++[x.1,x.2]:=by
 simp [ordP]
theorem order_ok (re:Re) (hs:re.set.length≤1000000000) (hk:re.kids.length≤1000000000):PureOK prog 39 [reV re] (.d (intsD (ordL re))):=by
 refine fn_ok func39 rfl ntmps39 results39 rfl 0 63 (by simp) (by simp) ?_
 cases hng:re.neg
 all_goals
  simp only[zW,Nat.reduceShiftRight,Nat.reduceMod,Nat.reduceLT,Nat.reduceMul,Nat.reduceSub,Int.reduceToNat,Int.reduceNeg,Int.reduceLT,Int.reduceLE,Int.reduceEq,Nat.reduceEqDiff,Nat.reduceAdd,Nat.reduceLeDiff,reduceIte,reduceCtorEq,Nat.reduceBEq,i64,reV_eq re,iD,bD,hng]
  refine loop_rule (fun n e s=>∃i:Nat,n=re.set.length - i∧i≤re.set.length∧e 1=.rf 0 0 0 0∧e 3=i64 (if re.neg then 1 else 0)∧e 5=i64 i ∧
    ((i=0∧e 4=.fu [[iD re.op],[iD re.set.length]]∧s=[boxR re])∨∃g,e 4=.so 1 g 0 (2 + 2 * i)∧s=[boxR re,intArr g (ordP re (re.set.take i))]))
   ⟨_,_,_,Cln.refl,0,rfl,by omega,rfl,by rw[hng]; rfl,rfl,.inl ⟨rfl,rfl,by rw[boxR,Re.cells_eq]; simp [hng,iD,bD]⟩⟩ ?_
  rintro n e s ⟨i,rfl,hi,h1,h3,h5,hacc⟩
  rcases Nat.lt_or_ge i re.set.length with hlt | hge
  ·obtain⟨k,hk'⟩:∃k,re.set[i]?=some k:=⟨_,List.getElem?_eq_getElem hlt⟩
   have hl:=ordP_len re (re.set.take i)
   rw[List.length_take_of_le hi] at hl
   rcases hacc with ⟨rfl,h4,rfl⟩ | ⟨g,h4,rfl⟩
   ·simp only[zW,Nat.reduceShiftRight,Nat.reduceMod,Nat.reduceLT,Nat.reduceMul,Nat.reduceSub,Int.reduceToNat,Int.reduceNeg,Int.reduceLT,Int.reduceLE,Int.reduceEq,Nat.reduceEqDiff,Nat.reduceAdd,Nat.reduceLeDiff,reduceIte,reduceCtorEq,Nat.reduceBEq,i64,iD,bD,boxR,Re.cells_eq re,intArr,spanC,h1,h3,h4,h5,hlt,hk']
    refine draw_c mix [14] [] (by rfl) ?_
    simp only[zW,Nat.reduceShiftRight,Nat.reduceMod,Nat.reduceLT,Nat.reduceMul,Nat.reduceSub,Int.reduceToNat,Int.reduceNeg,Int.reduceLT,Int.reduceLE,Int.reduceEq,Nat.reduceEqDiff,Nat.reduceAdd,Nat.reduceLeDiff,reduceIte,reduceCtorEq,Nat.reduceBEq,i64,iD,bD,boxR,Re.cells_eq re,intArr,spanC,h1,h3,h4,h5,hlt,hk']
    refine⟨by simp,by simp,re.set.length - 1,_,_,by omega,Cln.refl,1,rfl,by omega,?_,?_,?_,.inr ⟨0,?_,?_⟩⟩ <;> (try simp only[zU,Nat.reduceBEq,Nat.reduceShiftRight,Nat.reduceMod,Nat.reduceEqDiff,reduceIte])
    ·exact h1
    ·exact h3
    ·rw[w64 _ (by omega)]; rfl
    ·rw[take_get hk',ordP_snoc]; simp [ordP]
   ·simp only[zW,Nat.reduceShiftRight,Nat.reduceMod,Nat.reduceLT,Nat.reduceMul,Nat.reduceSub,Int.reduceToNat,Int.reduceNeg,Int.reduceLT,Int.reduceLE,Int.reduceEq,Nat.reduceEqDiff,Nat.reduceAdd,Nat.reduceLeDiff,reduceIte,reduceCtorEq,Nat.reduceBEq,i64,iD,bD,boxR,Re.cells_eq re,intArr,spanC,h1,h3,h4,h5,hlt,hk']
    refine draw_c mix [14] [] (by rfl) ?_
    simp only[zW,Nat.reduceShiftRight,Nat.reduceMod,Nat.reduceLT,Nat.reduceMul,Nat.reduceSub,Int.reduceToNat,Int.reduceNeg,Int.reduceLT,Int.reduceLE,Int.reduceEq,Nat.reduceEqDiff,Nat.reduceAdd,Nat.reduceLeDiff,reduceIte,reduceCtorEq,Nat.reduceBEq,i64,iD,bD,boxR,Re.cells_eq re,intArr,spanC,h1,h3,h4,h5,hlt,hk']
    have hcut:((((ordP re (re.set.take i)).map fun x=>[D.sc (Value.int .i64 x)]).map fun c=>c.map V.d).take (2 + 2 * i))=(((ordP re (re.set.take i)).map fun x=>[D.sc (Value.int .i64 x)]).map fun c=>c.map V.d):=List.take_of_length_le (by simp [hl])
    rw[hcut]
    refine⟨by simp,⟨by omega,by omega⟩,re.set.length - (i + 1),_,_,by omega,Cln.refl,i + 1,rfl,by omega,?_,?_,?_,.inr ⟨g + 1,?_,?_⟩⟩ <;> (try simp only[zU,Nat.reduceBEq,Nat.reduceShiftRight,Nat.reduceMod,Nat.reduceEqDiff,reduceIte])
    ·exact h1
    ·exact h3
    ·rw[w64 _ (by omega)]; rfl
    ·rw[show 2 + 2 * (i + 1)=2 + 2 * i + 2 by omega]
    ·rw[take_get hk',ordP_snoc]; simp
  ·have hie:i=re.set.length:=by omega
   subst hie
   have hl:=ordP_len re re.set
   rcases hacc with ⟨hz,h4,rfl⟩ | ⟨g,h4,rfl⟩
   ·simp only[zW,Nat.reduceShiftRight,Nat.reduceMod,Nat.reduceLT,Nat.reduceMul,Nat.reduceSub,Int.reduceToNat,Int.reduceNeg,Int.reduceLT,Int.reduceLE,Int.reduceEq,Nat.reduceEqDiff,Nat.reduceAdd,Nat.reduceLeDiff,reduceIte,reduceCtorEq,Nat.reduceBEq,i64,iD,bD,boxR,Re.cells_eq re,intArr,spanC,h1,h3,h4,h5,Nat.lt_irrefl]
    refine⟨by simp,by simp,?_⟩
    have hz':re.set=[]:=List.eq_nil_of_length_eq_zero hz
    simp [ordL,ordP,hz',iD]
   ·simp only[zW,Nat.reduceShiftRight,Nat.reduceMod,Nat.reduceLT,Nat.reduceMul,Nat.reduceSub,Int.reduceToNat,Int.reduceNeg,Int.reduceLT,Int.reduceLE,Int.reduceEq,Nat.reduceEqDiff,Nat.reduceAdd,Nat.reduceLeDiff,reduceIte,reduceCtorEq,Nat.reduceBEq,i64,iD,bD,boxR,Re.cells_eq re,intArr,spanC,h1,h3,h4,h5,Nat.lt_irrefl,List.take_length]
    have hels:((((ordP re re.set).map fun x=>[D.sc (Value.int .i64 x)]).map fun c=>c.map V.d).take (2 + 2 * re.set.length))++[[V.d (D.sc (Value.int IntKind.i64 re.mn))],[V.d (D.sc (Value.int IntKind.i64 re.mx))],[V.d (D.sc (Value.int IntKind.i64 re.mode))],[V.d (D.sc (Value.int IntKind.i64 re.n))],[V.d (D.sc (Value.int IntKind.i64 (if re.neg=true then 1 else 0)))],[V.d (D.sc (Value.int IntKind.i64 re.kids.length))]]
      = ((ordL re).map fun x=>[D.sc (Value.int .i64 x)]).map fun c=>c.map V.d:=by
     rw[List.take_of_length_le (by simp [hl])]; simp [ordL]
    simp only[hels]
    refine⟨by simp,⟨by omega,by omega⟩,?_⟩
    rw[frz_data 7 0 _ _ _ (by simp [ordL,hl]),if_pos (by simp [ordL,hl])]
    rfl
theorem cmpSelf_ok (re:Re) (hs:re.fine=true):PureOK prog 17 [reV re,reV re] (i64 0):=by
 revert hs
 refine Re.ind (Q:=fun re=>re.fine=true→PureOK prog 17 [reV re,reV re] (i64 0)) (fun re ih hs=>?_) re
 obtain⟨hset1,hlen,hfk⟩:=Re.fine_spec hs
 have hor:=order_ok re hset1 hlen
 have hL:(ordL re).length=8 + 2 * re.set.length:=by simp [ordL,ordP_len]; omega
 rw[reV_eq re] at hor
 simp only[iD,bD] at hor
 generalize ordL re=L at *
 refine fn_ok func17 rfl ntmps17 results17 rfl 0 1023 (by simp) (by simp) ?_
 simp only[zW,Nat.reduceShiftRight,Nat.reduceMod,Nat.reduceLT,Nat.reduceMul,Nat.reduceSub,Int.reduceToNat,Int.reduceNeg,Int.reduceLT,Int.reduceLE,Int.reduceEq,Nat.reduceEqDiff,Nat.reduceAdd,Nat.reduceLeDiff,reduceIte,reduceCtorEq,Nat.reduceBEq,i64,reV_eq re,iD,bD]
 refine call_pure hor rfl rfl ?_
 simp only[zW,Nat.reduceShiftRight,Nat.reduceMod,Nat.reduceLT,Nat.reduceMul,Nat.reduceSub,Int.reduceToNat,Int.reduceNeg,Int.reduceLT,Int.reduceLE,Int.reduceEq,Nat.reduceEqDiff,Nat.reduceAdd,Nat.reduceLeDiff,reduceIte,reduceCtorEq,Nat.reduceBEq,i64]
 refine call_pure hor rfl rfl ?_
 simp only[zW,Nat.reduceShiftRight,Nat.reduceMod,Nat.reduceLT,Nat.reduceMul,Nat.reduceSub,Int.reduceToNat,Int.reduceNeg,Int.reduceLT,Int.reduceLE,Int.reduceEq,Nat.reduceEqDiff,Nat.reduceAdd,Nat.reduceLeDiff,reduceIte,reduceCtorEq,Nat.reduceBEq,i64]
 refine loop_rule (fun n e s=>∃i:Nat,n=L.length - i∧i≤L.length∧e 2=.rf 0 0 0 0∧e 3=.rf 1 0 0 0∧e 5=.d (intsD L)∧e 6=.d (intsD L)∧e 7=i64 i∧s=[boxR re,boxR re])
  ⟨_,_,_,Cln.refl,0,rfl,by omega,rfl,rfl,rfl,rfl,rfl,by rw[boxR,Re.cells_eq]; rfl⟩ ?_
 rintro n e s ⟨i,rfl,hi,h2,h3,h5,h6,h7,rfl⟩
 rcases Nat.lt_or_ge i L.length with hlt | hge
 ·obtain⟨k,hk⟩:∃k,L[i]?=some k:=⟨_,List.getElem?_eq_getElem hlt⟩
  simp only[zW,Nat.reduceShiftRight,Nat.reduceMod,Nat.reduceLT,Nat.reduceMul,Nat.reduceSub,Int.reduceToNat,Int.reduceNeg,Int.reduceLT,Int.reduceLE,Int.reduceEq,Nat.reduceEqDiff,Nat.reduceAdd,Nat.reduceLeDiff,reduceIte,reduceCtorEq,Nat.reduceBEq,i64,h2,h3,h5,h6,h7,hlt]
  refine draw_c mix [] [] (by rfl) ?_
  simp only[zW,Nat.reduceShiftRight,Nat.reduceMod,Nat.reduceLT,Nat.reduceMul,Nat.reduceSub,Int.reduceToNat,Int.reduceNeg,Int.reduceLT,Int.reduceLE,Int.reduceEq,Nat.reduceEqDiff,Nat.reduceAdd,Nat.reduceLeDiff,reduceIte,reduceCtorEq,Nat.reduceBEq,i64,iD,h2,h3,h5,h6,h7,hlt,hk,Int.lt_irrefl]
  refine draw_c mix [] [] (by rfl) ?_
  simp only[zW,Nat.reduceShiftRight,Nat.reduceMod,Nat.reduceLT,Nat.reduceMul,Nat.reduceSub,Int.reduceToNat,Int.reduceNeg,Int.reduceLT,Int.reduceLE,Int.reduceEq,Nat.reduceEqDiff,Nat.reduceAdd,Nat.reduceLeDiff,reduceIte,reduceCtorEq,Nat.reduceBEq,i64,iD,h2,h3,h5,h6,h7,hlt,hk,Int.lt_irrefl]
  refine⟨L.length - (i + 1),_,_,by omega,Cln.refl,i + 1,rfl,hlt,?_,?_,?_,?_,?_,rfl⟩ <;> (try simp only[zU,Nat.reduceBEq,Nat.reduceShiftRight,Nat.reduceMod,Nat.reduceEqDiff,reduceIte])
  ·exact h2
  ·exact h3
  ·exact h5
  ·exact h6
  ·rw[w64 _ (by omega)]; rfl
 have hie:i=L.length:=by omega
 subst hie
 simp only[zW,Nat.reduceShiftRight,Nat.reduceMod,Nat.reduceLT,Nat.reduceMul,Nat.reduceSub,Int.reduceToNat,Int.reduceNeg,Int.reduceLT,Int.reduceLE,Int.reduceEq,Nat.reduceEqDiff,Nat.reduceAdd,Nat.reduceLeDiff,reduceIte,reduceCtorEq,Nat.reduceBEq,i64,h2,h3,h5,h6,h7,Nat.lt_irrefl]
 refine loop_rule (fun n e s=>∃i:Nat,n=re.kids.length - i∧i≤re.kids.length∧e 2=.rf 0 0 0 0∧e 3=.rf 1 0 0 0∧e 8=i64 i∧s=[boxR re,boxR re])
  ⟨_,_,_,Cln.refl,0,rfl,by omega,?_,?_,rfl,rfl⟩ ?_
 ·simp only[zU,Nat.reduceBEq,Nat.reduceShiftRight,Nat.reduceMod,Nat.reduceEqDiff,reduceIte]; exact h2
 ·simp only[zU,Nat.reduceBEq,Nat.reduceShiftRight,Nat.reduceMod,Nat.reduceEqDiff,reduceIte]; exact h3
 rintro n e s ⟨i,rfl,hi,h2,h3,h8,rfl⟩
 rcases Nat.lt_or_ge i re.kids.length with hlt | hge
 ·obtain⟨k,hk⟩:∃k,re.kids[i]?=some k:=⟨_,List.getElem?_eq_getElem hlt⟩
  have hm:=List.mem_of_getElem? hk
  have hks:=hfk k hm
  simp only[zW,Nat.reduceShiftRight,Nat.reduceMod,Nat.reduceLT,Nat.reduceMul,Nat.reduceSub,Int.reduceToNat,Int.reduceNeg,Int.reduceLT,Int.reduceLE,Int.reduceEq,Nat.reduceEqDiff,Nat.reduceAdd,Nat.reduceLeDiff,reduceIte,reduceCtorEq,Nat.reduceBEq,i64,h2,h3,h8,boxR,Re.cells_eq re,hlt,iD,bD]
  refine draw_c mix [] [] (by rfl) ?_
  simp only[zW,Nat.reduceShiftRight,Nat.reduceMod,Nat.reduceLT,Nat.reduceMul,Nat.reduceSub,Int.reduceToNat,Int.reduceNeg,Int.reduceLT,Int.reduceLE,Int.reduceEq,Nat.reduceEqDiff,Nat.reduceAdd,Nat.reduceLeDiff,reduceIte,reduceCtorEq,Nat.reduceBEq,i64,h2,h3,h8,hlt,hk,iD,bD]
  refine callC_pure (ih k hm hks) (by simp [refsV,refsV.go,reV_eq,i64,bV,reEl]) (by simp [refsV,refsV.go,reV_eq,i64,bV,reEl]) ?_
  simp only[zW,Nat.reduceShiftRight,Nat.reduceMod,Nat.reduceLT,Nat.reduceMul,Nat.reduceSub,Int.reduceToNat,Int.reduceNeg,Int.reduceLT,Int.reduceLE,Int.reduceEq,Nat.reduceEqDiff,Nat.reduceAdd,Nat.reduceLeDiff,reduceIte,reduceCtorEq,Nat.reduceBEq,i64,h2,h3,h8,hlt,hk,iD,bD]
  refine⟨re.kids.length - (i + 1),_,_,by omega,Cln.refl,i + 1,rfl,hlt,?_,?_,?_,rfl⟩ <;> (try simp only[zU,Nat.reduceBEq,Nat.reduceShiftRight,Nat.reduceMod,Nat.reduceEqDiff,reduceIte])
  ·exact h2
  ·exact h3
  ·rw[w64 _ (by omega)]; rfl
 ·have hie:i=re.kids.length:=by omega
  subst hie
  simp only[zW,Nat.reduceShiftRight,Nat.reduceMod,Nat.reduceLT,Nat.reduceMul,Nat.reduceSub,Int.reduceToNat,Int.reduceNeg,Int.reduceLT,Int.reduceLE,Int.reduceEq,Nat.reduceEqDiff,Nat.reduceAdd,Nat.reduceLeDiff,reduceIte,reduceCtorEq,Nat.reduceBEq,i64,h2,h3,h8,boxR,Re.cells_eq re,Nat.lt_irrefl,iD,bD]
  all_goals first | exact⟨rfl,rfl⟩ | exact⟨rfl,trivial⟩ | rfl | trivial | (rw[reV_eq]; rfl)
def aR:Re:=.mk 1 [(97,97)] [] 0 0 0 0 false
def xR:Re:=.mk 4 [] [aR] 2 3 0 0 false
def yR:Re:=.mk 2 [] [aR,aR,.mk 4 [] [aR] 0 1 0 0 false] 0 0 0 0 false
theorem x_exq:xR.every exq=true:=by decide
theorem x_fine:xR.fine=true:=by decide
theorem y_fine:yR.fine=true:=by decide
theorem x_lens:xR.lens=(2,3):=by decide
theorem x_size:(xR.size:Int)=2:=by decide
theorem y_size:(yR.size:Int)=5:=by decide
theorem x_depth:xR.depth=2:=by decide
theorem x_exp:expandR xR=(yR,0):=by
 rw[expandR,if_neg (by decide),if_neg (by decide)]
 rfl
theorem lives_ok:PureOK prog 18 [] (bV true):=by
 have hl:=lengths_ok xR x_fine
 have he:=expand_ok xR x_exq
 have hs:=size_ok xR (by decide)
 have hd:=depth_ok xR (by decide)
 have hs':=size_ok yR (by decide)
 have hc:=cmpSelf_ok yR y_fine
 rw[x_lens] at hl
 rw[x_exp] at he
 rw[x_size] at hs
 rw[x_depth] at hd
 rw[y_size] at hs'
 refine fn_ok func18 rfl ntmps18 results18 rfl 0 255 (by simp) (by simp) ?_
 simp only[zW,Nat.reduceShiftRight,Nat.reduceMod,Nat.reduceLT,Nat.reduceMul,Nat.reduceSub,Int.reduceToNat,Int.reduceNeg,Int.reduceLT,Int.reduceLE,Int.reduceEq,Nat.reduceEqDiff,Nat.reduceAdd,Nat.reduceLeDiff,reduceIte,reduceCtorEq,Nat.reduceBEq,i64]
 refine call_give [] rfl ?_
 refine call_pure hl rfl rfl ?_
 simp only[zW,Nat.reduceShiftRight,Nat.reduceMod,Nat.reduceLT,Nat.reduceMul,Nat.reduceSub,Int.reduceToNat,Int.reduceNeg,Int.reduceLT,Int.reduceLE,Int.reduceEq,Nat.reduceEqDiff,Nat.reduceAdd,Nat.reduceLeDiff,reduceIte,reduceCtorEq,Nat.reduceBEq,i64,killO]
 refine call_give [] rfl ?_
 refine call_pure he rfl (by simp [refsV,refsV.go,reV_eq,i64,bV,reEl]) ?_
 simp only[zW,Nat.reduceShiftRight,Nat.reduceMod,Nat.reduceLT,Nat.reduceMul,Nat.reduceSub,Int.reduceToNat,Int.reduceNeg,Int.reduceLT,Int.reduceLE,Int.reduceEq,Nat.reduceEqDiff,Nat.reduceAdd,Nat.reduceLeDiff,reduceIte,reduceCtorEq,Nat.reduceBEq,i64,killO]
 refine call_give [] rfl ?_
 refine call_pure hs rfl rfl ?_
 simp only[zW,Nat.reduceShiftRight,Nat.reduceMod,Nat.reduceLT,Nat.reduceMul,Nat.reduceSub,Int.reduceToNat,Int.reduceNeg,Int.reduceLT,Int.reduceLE,Int.reduceEq,Nat.reduceEqDiff,Nat.reduceAdd,Nat.reduceLeDiff,reduceIte,reduceCtorEq,Nat.reduceBEq,i64,killO]
 refine call_give [] rfl ?_
 refine call_pure hd rfl rfl ?_
 simp only[zW,Nat.reduceShiftRight,Nat.reduceMod,Nat.reduceLT,Nat.reduceMul,Nat.reduceSub,Int.reduceToNat,Int.reduceNeg,Int.reduceLT,Int.reduceLE,Int.reduceEq,Nat.reduceEqDiff,Nat.reduceAdd,Nat.reduceLeDiff,reduceIte,reduceCtorEq,Nat.reduceBEq,i64,killO]
 refine call_give [] rfl ?_
 refine call_pure hs' rfl rfl ?_
 simp only[zW,Nat.reduceShiftRight,Nat.reduceMod,Nat.reduceLT,Nat.reduceMul,Nat.reduceSub,Int.reduceToNat,Int.reduceNeg,Int.reduceLT,Int.reduceLE,Int.reduceEq,Nat.reduceEqDiff,Nat.reduceAdd,Nat.reduceLeDiff,reduceIte,reduceCtorEq,Nat.reduceBEq,i64,killO]
 refine call_give [] rfl ?_
 refine call_pure hc rfl rfl ?_
 simp only[zW,Nat.reduceShiftRight,Nat.reduceMod,Nat.reduceLT,Nat.reduceMul,Nat.reduceSub,Int.reduceToNat,Int.reduceNeg,Int.reduceLT,Int.reduceLE,Int.reduceEq,Nat.reduceEqDiff,Nat.reduceAdd,Nat.reduceLeDiff,reduceIte,reduceCtorEq,Nat.reduceBEq,i64,killO]
 all_goals first | exact⟨rfl,rfl⟩ | exact⟨rfl,trivial⟩ | rfl | trivial | (rw[reV_eq]; rfl)
structure LR (nul:Bool) (p:Int × Int):Prop where
 a0:0≤p.1
 a1:p.1≤1000000
 b0:-1≤p.2
 b1:p.2≤1000000
 ab:p.2=-1∨p.1≤p.2
 nl:nul=true ↔ p.1=0
end Go.Proofs.Ytffeafbdcakfbaa
