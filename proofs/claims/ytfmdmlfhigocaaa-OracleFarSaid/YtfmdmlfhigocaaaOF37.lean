/- A part of the proof (O21). -/
import Derived.Test.YtfmdmlfhigocaaaOF35
set_option linter.unusedSimpArgs false
set_option linter.unusedVariables false
set_option maxRecDepth 100000
set_option maxHeartbeats 80000000
namespace Go.Proofs.Ytfmdmlfhigocaaa
open Go.VL
def BL (re:Re):Bool:=!re.kf||re.kids.all fun k=>decide (1+il k<=8192)
def pM (re:Re):Bool:=decide (1+il re<=8192)&&re.every BL
def pB:VL.Obj:=⟨0,true,1,[[.cl (.func 70) [] [.rf 0 0 0 0]]]⟩
theorem xU (re:Re):0<=il re/\il re<=8193:=by unfold il;omega
def BS (re:Re):Prop:=aq Try.prog 70 [jW re,.rf 0 0 0 0] [pB] fun v s=>v=bV (re.every BL)/\s=[pB]
theorem G8 {re:Re} (h:BS re) {tl:List VL.Obj}{K:V->List VL.Obj->Prop} (hk:K (bV (re.every BL)) (pB::tl)):aq Try.prog 70 [jW re,.rf 0 0 0 0] (pB::tl) K:=by
 refine dk [0] h (by decide) rfl rfl ?_ ?_ (by rfl) (r':=bV (re.every BL)) rfl ?_
 ·rw[aj];simp [aJ,aJ.go,i64,bV]
 ·rw[aj];simp [ah,ah.go,i64,bV]
 ·exact hk
theorem Mj (re:Re):re.every nt=true->BS re:=by
 induction re using Re.ind with
 |h re ih =>
 intro hs
 obtain⟨gX,pj⟩:=(Re.aS re).1 hs
 obtain⟨_,_,q3,_⟩:=kP.1 gX
 unfold BS
 refine an Try.func70 rfl Try.ntmps70 Try.results70 rfl 1 943 (by simp) (by simp) ?_
 simp only[zX,Nat.reduceShiftRight,Nat.reduceMod,Nat.reduceLT,Nat.reduceMul,Nat.reduceSub,Int.reduceToNat,Int.reduceNeg,Int.reduceLT,Int.reduceLE,Int.reduceEq,Nat.reduceEqDiff,Nat.reduceAdd,Nat.reduceLeDiff,reduceIte,reduceCtorEq,Nat.reduceBEq,i64,aj re,iD,bD]
 refine ay (fun n e s=>∃i:Nat,n=re.kids.length-i/\i<=re.kids.length/\e 1=.rf 0 0 0 0/\e 2=.rf 1 0 0 0/\e 7=.d (.sl (re.kids.map Re.cells))/\e 8=i64 re.kids.length/\e 9=i64 i/\(∀x∈re.kids.take i,(re.kf=true->1+il x<=8192)/\x.every BL=true)/\s=[pB,aF re]) ⟨_,_,_,bI.refl,0,rfl,by omega,rfl,rfl,rfl,rfl,rfl,by simp,by simp [aF,Re.ae re,iD,bD]⟩ ?_
 rintro n e s ⟨i,rfl,hi,h1,h2,h7,h8,h9,bM,rfl⟩
 rcases Nat.lt_or_ge i re.kids.length with az|ib
 ·obtain⟨k,hk⟩:∃k,re.kids[i]?=some k:=⟨_,List.getElem?_eq_getElem az⟩
  have hm:=List.mem_of_getElem? hk
  have aK:(i:Int)<(re.kids.length:Int):=by omega
  have hi0:(0:Int)<=(i:Int):=by omega
  have Ew:=yx k (pj k hm)
  have XS:=xU k
  have w1:IntKind.i64.wrap (1+il k)=1+il k:=br _ (by omega)
  have CB:=fun K hk=>G8 (ih k hm (pj k hm)) (tl:=[aF re,⟨0,true,8,[k.cells.map .d]⟩]) (K:=K) hk
  have kL:re.kf=true->8192<1+il k->re.every BL=false:=fun h1 h2=>by
   rw[Bool.eq_false_iff];intro h
   have h3:=((Re.aS re).1 h).1
   unfold BL at h3
   rw[h1]at h3
   simp only[Bool.not_true,Bool.false_or,List.all_eq_true,decide_eq_true_eq]at h3
   have:=h3 k hm
   omega
  have LQ:k.every BL=false->re.every BL=false:=fun h=>by
   rw[Bool.eq_false_iff];intro h3
   have:=((Re.aS re).1 h3).2 k hm
   rw[h]at this
   cases this
  simp only[i64]at Ew
  unfold aF at CB
  rw[Re.ae re]at CB
  generalize ZA:il k=y at *
  have mL:re.op=7\/(re.op≠7/\re.op=8)\/(re.op≠7/\re.op≠8):=by omega
  rcases mL with o|⟨o,o'⟩|⟨o,o'⟩
  ·have hl:re.kf=true:=by unfold Re.kf;simp only[o];rfl
   have B9:¬re.kf=true->False:=fun h=>h hl
   by_cases c:8192<1+y
   ·rw[kL hl c]
    simp only[zX,Nat.reduceShiftRight,Nat.reduceMod,Nat.reduceLT,Nat.reduceMul,Nat.reduceSub,Int.reduceToNat,Int.reduceNeg,Int.reduceLT,Int.reduceLE,Int.reduceEq,Nat.reduceEqDiff,Nat.reduceAdd,Nat.reduceLeDiff,reduceIte,reduceCtorEq,Nat.reduceBEq,aF,Re.ae re,List.map_cons,List.map_nil,iD,bD,bV,h1,h2,h7,h8,h9,i64,aK,hi0,az,hk,List.length_map,List.getElem?_map,Option.map_some,Int.toNat_natCast,w1,o,c]
    refine al Ew (by simp [ah,ah.go,aj,i64,bV,bm]) (by simp [ah,ah.go,aj,i64,bV,bm]) ?_
    simp only[zX,Nat.reduceShiftRight,Nat.reduceMod,Nat.reduceLT,Nat.reduceMul,Nat.reduceSub,Int.reduceToNat,Int.reduceNeg,Int.reduceLT,Int.reduceLE,Int.reduceEq,Nat.reduceEqDiff,Nat.reduceAdd,Nat.reduceLeDiff,reduceIte,reduceCtorEq,Nat.reduceBEq,aF,Re.ae re,List.map_cons,List.map_nil,iD,bD,bV,h1,h2,h7,h8,h9,i64,aK,hi0,az,hk,List.length_map,List.getElem?_map,Option.map_some,Int.toNat_natCast,w1,o,c]
    all_goals rfl
   ·cases eN:k.every BL with
    |false =>
     rw[LQ eN]
     simp only[zX,Nat.reduceShiftRight,Nat.reduceMod,Nat.reduceLT,Nat.reduceMul,Nat.reduceSub,Int.reduceToNat,Int.reduceNeg,Int.reduceLT,Int.reduceLE,Int.reduceEq,Nat.reduceEqDiff,Nat.reduceAdd,Nat.reduceLeDiff,reduceIte,reduceCtorEq,Nat.reduceBEq,aF,Re.ae re,List.map_cons,List.map_nil,iD,bD,bV,h1,h2,h7,h8,h9,i64,aK,hi0,az,hk,List.length_map,List.getElem?_map,Option.map_some,Int.toNat_natCast,w1,o,c]
     refine al Ew (by simp [ah,ah.go,aj,i64,bV,bm]) (by simp [ah,ah.go,aj,i64,bV,bm]) ?_
     simp only[zX,Nat.reduceShiftRight,Nat.reduceMod,Nat.reduceLT,Nat.reduceMul,Nat.reduceSub,Int.reduceToNat,Int.reduceNeg,Int.reduceLT,Int.reduceLE,Int.reduceEq,Nat.reduceEqDiff,Nat.reduceAdd,Nat.reduceLeDiff,reduceIte,reduceCtorEq,Nat.reduceBEq,aF,Re.ae re,List.map_cons,List.map_nil,iD,bD,bV,h1,h2,h7,h8,h9,i64,aK,hi0,az,hk,List.length_map,List.getElem?_map,Option.map_some,Int.toNat_natCast,w1,o,c,pB,Bool.not_false]
     simp only[o]at CB
     unfold pB at CB
     refine CB _ ?_
     simp only[zX,Nat.reduceShiftRight,Nat.reduceMod,Nat.reduceLT,Nat.reduceMul,Nat.reduceSub,Int.reduceToNat,Int.reduceNeg,Int.reduceLT,Int.reduceLE,Int.reduceEq,Nat.reduceEqDiff,Nat.reduceAdd,Nat.reduceLeDiff,reduceIte,reduceCtorEq,Nat.reduceBEq,aF,Re.ae re,List.map_cons,List.map_nil,iD,bD,bV,h1,h2,h7,h8,h9,i64,aK,hi0,az,hk,List.length_map,List.getElem?_map,Option.map_some,Int.toNat_natCast,w1,o,c,eN,Bool.not_false]
     all_goals rfl
    |true =>
     simp only[zX,Nat.reduceShiftRight,Nat.reduceMod,Nat.reduceLT,Nat.reduceMul,Nat.reduceSub,Int.reduceToNat,Int.reduceNeg,Int.reduceLT,Int.reduceLE,Int.reduceEq,Nat.reduceEqDiff,Nat.reduceAdd,Nat.reduceLeDiff,reduceIte,reduceCtorEq,Nat.reduceBEq,aF,Re.ae re,List.map_cons,List.map_nil,iD,bD,bV,h1,h2,h7,h8,h9,i64,aK,hi0,az,hk,List.length_map,List.getElem?_map,Option.map_some,Int.toNat_natCast,w1,o,c]
     refine al Ew (by simp [ah,ah.go,aj,i64,bV,bm]) (by simp [ah,ah.go,aj,i64,bV,bm]) ?_
     simp only[zX,Nat.reduceShiftRight,Nat.reduceMod,Nat.reduceLT,Nat.reduceMul,Nat.reduceSub,Int.reduceToNat,Int.reduceNeg,Int.reduceLT,Int.reduceLE,Int.reduceEq,Nat.reduceEqDiff,Nat.reduceAdd,Nat.reduceLeDiff,reduceIte,reduceCtorEq,Nat.reduceBEq,aF,Re.ae re,List.map_cons,List.map_nil,iD,bD,bV,h1,h2,h7,h8,h9,i64,aK,hi0,az,hk,List.length_map,List.getElem?_map,Option.map_some,Int.toNat_natCast,w1,o,c,pB,Bool.not_false]
     simp only[o]at CB
     unfold pB at CB
     refine CB _ ?_
     simp only[zX,Nat.reduceShiftRight,Nat.reduceMod,Nat.reduceLT,Nat.reduceMul,Nat.reduceSub,Int.reduceToNat,Int.reduceNeg,Int.reduceLT,Int.reduceLE,Int.reduceEq,Nat.reduceEqDiff,Nat.reduceAdd,Nat.reduceLeDiff,reduceIte,reduceCtorEq,Nat.reduceBEq,aF,Re.ae re,List.map_cons,List.map_nil,iD,bD,bV,h1,h2,h7,h8,h9,i64,aK,hi0,az,hk,List.length_map,List.getElem?_map,Option.map_some,Int.toNat_natCast,w1,o,c,eN,Bool.not_true]
     refine⟨re.kids.length-(i+1),_,_,by omega,bI.cut (s':=[pB,aF re]) 2 (by omega) (by simp [aF,pB,Re.ae re,iD,bD,o]) (by simp [aF,pB,aQ,Re.ae re,ah,ah.go]) [1,2,7,8,9] (by simp [bB,aL,ah,h1,h2,h7,h8,h9,i64]),i+1,rfl,az,?_,?_,?_,?_,?_,?_,by simp [aF,pB,Re.ae re,iD,bD,o]⟩ <;> (try simp only[zU,Nat.reduceBEq,Nat.reduceShiftRight,Nat.reduceMod,Nat.reduceEqDiff,reduceIte])
     ·exact h1
     ·exact h2
     ·exact h7
     ·exact h8
     ·rw[br _ (by omega)];rfl
     ·intro x hx
      rcases b6 hk hx with h|rfl
      ·exact bM x h
      ·exact⟨fun jO=>by first|omega|exact absurd jO B9,eN⟩
  ·have hl:re.kf=true:=by unfold Re.kf;simp only[o'];rfl
   have B9:¬re.kf=true->False:=fun h=>h hl
   by_cases c:8192<1+y
   ·rw[kL hl c]
    simp only[zX,Nat.reduceShiftRight,Nat.reduceMod,Nat.reduceLT,Nat.reduceMul,Nat.reduceSub,Int.reduceToNat,Int.reduceNeg,Int.reduceLT,Int.reduceLE,Int.reduceEq,Nat.reduceEqDiff,Nat.reduceAdd,Nat.reduceLeDiff,reduceIte,reduceCtorEq,Nat.reduceBEq,aF,Re.ae re,List.map_cons,List.map_nil,iD,bD,bV,h1,h2,h7,h8,h9,i64,aK,hi0,az,hk,List.length_map,List.getElem?_map,Option.map_some,Int.toNat_natCast,w1,o',c]
    refine al Ew (by simp [ah,ah.go,aj,i64,bV,bm]) (by simp [ah,ah.go,aj,i64,bV,bm]) ?_
    simp only[zX,Nat.reduceShiftRight,Nat.reduceMod,Nat.reduceLT,Nat.reduceMul,Nat.reduceSub,Int.reduceToNat,Int.reduceNeg,Int.reduceLT,Int.reduceLE,Int.reduceEq,Nat.reduceEqDiff,Nat.reduceAdd,Nat.reduceLeDiff,reduceIte,reduceCtorEq,Nat.reduceBEq,aF,Re.ae re,List.map_cons,List.map_nil,iD,bD,bV,h1,h2,h7,h8,h9,i64,aK,hi0,az,hk,List.length_map,List.getElem?_map,Option.map_some,Int.toNat_natCast,w1,o',c]
    all_goals rfl
   ·cases eN:k.every BL with
    |false =>
     rw[LQ eN]
     simp only[zX,Nat.reduceShiftRight,Nat.reduceMod,Nat.reduceLT,Nat.reduceMul,Nat.reduceSub,Int.reduceToNat,Int.reduceNeg,Int.reduceLT,Int.reduceLE,Int.reduceEq,Nat.reduceEqDiff,Nat.reduceAdd,Nat.reduceLeDiff,reduceIte,reduceCtorEq,Nat.reduceBEq,aF,Re.ae re,List.map_cons,List.map_nil,iD,bD,bV,h1,h2,h7,h8,h9,i64,aK,hi0,az,hk,List.length_map,List.getElem?_map,Option.map_some,Int.toNat_natCast,w1,o',c]
     refine al Ew (by simp [ah,ah.go,aj,i64,bV,bm]) (by simp [ah,ah.go,aj,i64,bV,bm]) ?_
     simp only[zX,Nat.reduceShiftRight,Nat.reduceMod,Nat.reduceLT,Nat.reduceMul,Nat.reduceSub,Int.reduceToNat,Int.reduceNeg,Int.reduceLT,Int.reduceLE,Int.reduceEq,Nat.reduceEqDiff,Nat.reduceAdd,Nat.reduceLeDiff,reduceIte,reduceCtorEq,Nat.reduceBEq,aF,Re.ae re,List.map_cons,List.map_nil,iD,bD,bV,h1,h2,h7,h8,h9,i64,aK,hi0,az,hk,List.length_map,List.getElem?_map,Option.map_some,Int.toNat_natCast,w1,o',c,pB,Bool.not_false]
     simp only[o']at CB
     unfold pB at CB
     refine CB _ ?_
     simp only[zX,Nat.reduceShiftRight,Nat.reduceMod,Nat.reduceLT,Nat.reduceMul,Nat.reduceSub,Int.reduceToNat,Int.reduceNeg,Int.reduceLT,Int.reduceLE,Int.reduceEq,Nat.reduceEqDiff,Nat.reduceAdd,Nat.reduceLeDiff,reduceIte,reduceCtorEq,Nat.reduceBEq,aF,Re.ae re,List.map_cons,List.map_nil,iD,bD,bV,h1,h2,h7,h8,h9,i64,aK,hi0,az,hk,List.length_map,List.getElem?_map,Option.map_some,Int.toNat_natCast,w1,o',c,eN,Bool.not_false]
     all_goals rfl
    |true =>
     simp only[zX,Nat.reduceShiftRight,Nat.reduceMod,Nat.reduceLT,Nat.reduceMul,Nat.reduceSub,Int.reduceToNat,Int.reduceNeg,Int.reduceLT,Int.reduceLE,Int.reduceEq,Nat.reduceEqDiff,Nat.reduceAdd,Nat.reduceLeDiff,reduceIte,reduceCtorEq,Nat.reduceBEq,aF,Re.ae re,List.map_cons,List.map_nil,iD,bD,bV,h1,h2,h7,h8,h9,i64,aK,hi0,az,hk,List.length_map,List.getElem?_map,Option.map_some,Int.toNat_natCast,w1,o',c]
     refine al Ew (by simp [ah,ah.go,aj,i64,bV,bm]) (by simp [ah,ah.go,aj,i64,bV,bm]) ?_
     simp only[zX,Nat.reduceShiftRight,Nat.reduceMod,Nat.reduceLT,Nat.reduceMul,Nat.reduceSub,Int.reduceToNat,Int.reduceNeg,Int.reduceLT,Int.reduceLE,Int.reduceEq,Nat.reduceEqDiff,Nat.reduceAdd,Nat.reduceLeDiff,reduceIte,reduceCtorEq,Nat.reduceBEq,aF,Re.ae re,List.map_cons,List.map_nil,iD,bD,bV,h1,h2,h7,h8,h9,i64,aK,hi0,az,hk,List.length_map,List.getElem?_map,Option.map_some,Int.toNat_natCast,w1,o',c,pB,Bool.not_false]
     simp only[o']at CB
     unfold pB at CB
     refine CB _ ?_
     simp only[zX,Nat.reduceShiftRight,Nat.reduceMod,Nat.reduceLT,Nat.reduceMul,Nat.reduceSub,Int.reduceToNat,Int.reduceNeg,Int.reduceLT,Int.reduceLE,Int.reduceEq,Nat.reduceEqDiff,Nat.reduceAdd,Nat.reduceLeDiff,reduceIte,reduceCtorEq,Nat.reduceBEq,aF,Re.ae re,List.map_cons,List.map_nil,iD,bD,bV,h1,h2,h7,h8,h9,i64,aK,hi0,az,hk,List.length_map,List.getElem?_map,Option.map_some,Int.toNat_natCast,w1,o',c,eN,Bool.not_true]
     refine⟨re.kids.length-(i+1),_,_,by omega,bI.cut (s':=[pB,aF re]) 2 (by omega) (by simp [aF,pB,Re.ae re,iD,bD,o']) (by simp [aF,pB,aQ,Re.ae re,ah,ah.go]) [1,2,7,8,9] (by simp [bB,aL,ah,h1,h2,h7,h8,h9,i64]),i+1,rfl,az,?_,?_,?_,?_,?_,?_,by simp [aF,pB,Re.ae re,iD,bD,o']⟩ <;> (try simp only[zU,Nat.reduceBEq,Nat.reduceShiftRight,Nat.reduceMod,Nat.reduceEqDiff,reduceIte])
     ·exact h1
     ·exact h2
     ·exact h7
     ·exact h8
     ·rw[br _ (by omega)];rfl
     ·intro x hx
      rcases b6 hk hx with h|rfl
      ·exact bM x h
      ·exact⟨fun jO=>by first|omega|exact absurd jO B9,eN⟩
  ·have B9:¬re.kf=true:=by unfold Re.kf;simp;omega
   cases eN:k.every BL with
   |false =>
    rw[LQ eN]
    simp only[zX,Nat.reduceShiftRight,Nat.reduceMod,Nat.reduceLT,Nat.reduceMul,Nat.reduceSub,Int.reduceToNat,Int.reduceNeg,Int.reduceLT,Int.reduceLE,Int.reduceEq,Nat.reduceEqDiff,Nat.reduceAdd,Nat.reduceLeDiff,reduceIte,reduceCtorEq,Nat.reduceBEq,aF,Re.ae re,List.map_cons,List.map_nil,iD,bD,bV,h1,h2,h7,h8,h9,i64,aK,hi0,az,hk,List.length_map,List.getElem?_map,Option.map_some,Int.toNat_natCast,w1,o,o',pB,Bool.not_false]
    unfold pB at CB
    refine CB _ ?_
    simp only[zX,Nat.reduceShiftRight,Nat.reduceMod,Nat.reduceLT,Nat.reduceMul,Nat.reduceSub,Int.reduceToNat,Int.reduceNeg,Int.reduceLT,Int.reduceLE,Int.reduceEq,Nat.reduceEqDiff,Nat.reduceAdd,Nat.reduceLeDiff,reduceIte,reduceCtorEq,Nat.reduceBEq,aF,Re.ae re,List.map_cons,List.map_nil,iD,bD,bV,h1,h2,h7,h8,h9,i64,aK,hi0,az,hk,List.length_map,List.getElem?_map,Option.map_some,Int.toNat_natCast,w1,o,o',eN,Bool.not_false]
    all_goals rfl
   |true =>
    simp only[zX,Nat.reduceShiftRight,Nat.reduceMod,Nat.reduceLT,Nat.reduceMul,Nat.reduceSub,Int.reduceToNat,Int.reduceNeg,Int.reduceLT,Int.reduceLE,Int.reduceEq,Nat.reduceEqDiff,Nat.reduceAdd,Nat.reduceLeDiff,reduceIte,reduceCtorEq,Nat.reduceBEq,aF,Re.ae re,List.map_cons,List.map_nil,iD,bD,bV,h1,h2,h7,h8,h9,i64,aK,hi0,az,hk,List.length_map,List.getElem?_map,Option.map_some,Int.toNat_natCast,w1,o,o',pB,Bool.not_false]
    unfold pB at CB
    refine CB _ ?_
    simp only[zX,Nat.reduceShiftRight,Nat.reduceMod,Nat.reduceLT,Nat.reduceMul,Nat.reduceSub,Int.reduceToNat,Int.reduceNeg,Int.reduceLT,Int.reduceLE,Int.reduceEq,Nat.reduceEqDiff,Nat.reduceAdd,Nat.reduceLeDiff,reduceIte,reduceCtorEq,Nat.reduceBEq,aF,Re.ae re,List.map_cons,List.map_nil,iD,bD,bV,h1,h2,h7,h8,h9,i64,aK,hi0,az,hk,List.length_map,List.getElem?_map,Option.map_some,Int.toNat_natCast,w1,o,o',eN,Bool.not_true]
    refine⟨re.kids.length-(i+1),_,_,by omega,bI.cut (s':=[pB,aF re]) 2 (by omega) (by simp [aF,pB,Re.ae re,iD,bD]) (by simp [aF,pB,aQ,Re.ae re,ah,ah.go]) [1,2,7,8,9] (by simp [bB,aL,ah,h1,h2,h7,h8,h9,i64]),i+1,rfl,az,?_,?_,?_,?_,?_,?_,by simp [aF,pB,Re.ae re,iD,bD]⟩ <;> (try simp only[zU,Nat.reduceBEq,Nat.reduceShiftRight,Nat.reduceMod,Nat.reduceEqDiff,reduceIte])
    ·exact h1
    ·exact h2
    ·exact h7
    ·exact h8
    ·rw[br _ (by omega)];rfl
    ·intro x hx
     rcases b6 hk hx with h|rfl
     ·exact bM x h
     ·exact⟨fun jO=>by first|omega|exact absurd jO B9,eN⟩
 ·have eQ:i=re.kids.length:=by omega
  subst eQ
  rw[List.take_length]at bM
  have Jd:re.every BL=true:=(Re.aS re).2 ⟨by
   unfold BL
   cases hl:re.kf with
   |false=>rfl
   |true =>
    simp only[Bool.not_true,Bool.false_or,List.all_eq_true,decide_eq_true_eq]
    exact fun x hx=>(bM x hx).1 hl,fun x hx=>(bM x hx).2⟩
  rw[Jd]
  simp only[zX,Nat.reduceShiftRight,Nat.reduceMod,Nat.reduceLT,Nat.reduceMul,Nat.reduceSub,Int.reduceToNat,Int.reduceNeg,Int.reduceLT,Int.reduceLE,Int.reduceEq,Nat.reduceEqDiff,Nat.reduceAdd,Nat.reduceLeDiff,reduceIte,reduceCtorEq,Nat.reduceBEq,aF,Re.ae re,List.map_cons,List.map_nil,iD,bD,bV,h1,h2,h7,h8,h9,i64,Int.lt_irrefl]
  all_goals rfl
end Go.Proofs.Ytfmdmlfhigocaaa
