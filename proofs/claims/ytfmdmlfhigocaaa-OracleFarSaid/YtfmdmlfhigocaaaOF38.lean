/- A part of the proof (O22). -/
import Derived.Test.YtfmdmlfhigocaaaOF16
import Derived.Test.YtfmdmlfhigocaaaOF37
set_option linter.unusedSimpArgs false
set_option linter.unusedVariables false
set_option maxRecDepth 100000
set_option maxHeartbeats 80000000
namespace Go.Proofs.Ytfmdmlfhigocaaa
open Go.VL
mutual
def Re.bC:Re->List Bool->Bool->Bool
 |.mk op _ kids _ _ mode n _,A,look =>
  if op=6\/op=10\/op=9 then false
  else if op=4/\(mode=2\/Re.HR kids=true) then false
  else if op=5/\(look=true\/A.getD n.toNat false=true) then false
  else Re.Ev kids (if op=5 then A.set n.toNat true else A) (look||decide (op=7\/op=8))
def Re.Ev:List Re->List Bool->Bool->Bool
 |[],_,_=>true
 |k::l,A,look=>k.bC A look&&Re.Ev l A look
def Re.HR:List Re->Bool
 |[]=>false
 |k::_=>k.kN
end
theorem Re.Bd:∀(l:List Re) (A:List Bool) (look:Bool),Re.Ev l A look=l.all fun k=>k.bC A look
 |[],_,_=>by simp [Re.Ev]
 |k::l,A,look=>by simp [Re.Ev,Re.Bd l A look]
theorem Re.Ke (re:Re) (A:List Bool) (look:Bool):re.bC A look=if re.op=6\/re.op=10\/re.op=9 then false
  else if re.op=4/\(re.mode=2\/Re.HR re.kids=true) then false
  else if re.op=5/\(look=true\/A.getD re.n.toNat false=true) then false
  else re.kids.all fun k=>k.bC (if re.op=5 then A.set re.n.toNat true else A) (look||decide (re.op=7\/re.op=8)):=by
 cases re;rw[Re.bC,Re.Bd];rfl
def kV (A:List Bool):V:=.ag (A.map bV)
def bf (A:List Bool):VL.Obj:=⟨0,true,A.length,[A.map bV]⟩
theorem kv (n:Nat):∀A:List Bool,ah.go n (A.map bV)=true
 |[]=>rfl
 |b::A=>by
  have:=kv n A
  simp only[List.map_cons,ah.go,this,Bool.and_true]
  rfl
theorem L6 (re:Re) (hf:re.dG=true):re.every nt=true->∀(A:List Bool) (look:Bool),A.length=10->ba Try.prog 36 [jW re,kV A,bV look] (bV (re.bC A look)):=by
 revert hf
 refine Re.ind (Q:=fun re=>re.dG=true->re.every nt=true->∀(A:List Bool) (look:Bool),A.length=10->ba Try.prog 36 [jW re,kV A,bV look] (bV (re.bC A look))) (fun re Xg hf hs A look hA=>?_) re
 obtain⟨_,_,FK⟩:=Re.fr hf
 have ih:∀k∈re.kids,k.every nt=true->∀(A:List Bool) (look:Bool),A.length=10->ba Try.prog 36 [jW k,kV A,bV look] (bV (k.bC A look)):=fun k hk=>Xg k hk (FK k hk)
 clear Xg
 obtain⟨gX,pj⟩:=(Re.aS re).1 hs
 obtain⟨q1,q2,q3,q4,q5,q6,q7,q8,q9,gY,lJ,zp,Gx,MH,_⟩:=kP.1 gX
 have mL:re.op=6\/re.op=10\/re.op=9\/re.op=4\/re.op=5\/re.op=7\/re.op=8\/re.op=0\/re.op=1\/re.op=2\/re.op=3\/re.op=11:=by omega
 rw[Re.Ke]
 rcases mL with o|o|o|o|o|o|o|o|o|o|o|o
 case inl=>rw[if_pos (.inl o)];unfold kV;refine an Try.func36 rfl Try.ntmps36 Try.results36 rfl 0 62122406972767 (by simp) (by simp) ?_;simp only[zX,Nat.reduceShiftRight,Nat.reduceMod,Nat.reduceLT,Nat.reduceMul,Nat.reduceSub,Int.reduceToNat,Int.reduceNeg,Int.reduceLT,Int.reduceLE,Int.reduceEq,Nat.reduceEqDiff,Nat.reduceAdd,Nat.reduceLeDiff,reduceIte,reduceCtorEq,Nat.reduceBEq,i64,aj re,iD,bD,bV,o];all_goals rfl
 case inr.inl=>rw[if_pos (.inr (.inl o))];unfold kV;refine an Try.func36 rfl Try.ntmps36 Try.results36 rfl 0 62122406972767 (by simp) (by simp) ?_;simp only[zX,Nat.reduceShiftRight,Nat.reduceMod,Nat.reduceLT,Nat.reduceMul,Nat.reduceSub,Int.reduceToNat,Int.reduceNeg,Int.reduceLT,Int.reduceLE,Int.reduceEq,Nat.reduceEqDiff,Nat.reduceAdd,Nat.reduceLeDiff,reduceIte,reduceCtorEq,Nat.reduceBEq,i64,aj re,iD,bD,bV,o];all_goals rfl
 case inr.inr.inl=>rw[if_pos (.inr (.inr o))];unfold kV;refine an Try.func36 rfl Try.ntmps36 Try.results36 rfl 0 62122406972767 (by simp) (by simp) ?_;simp only[zX,Nat.reduceShiftRight,Nat.reduceMod,Nat.reduceLT,Nat.reduceMul,Nat.reduceSub,Int.reduceToNat,Int.reduceNeg,Int.reduceLT,Int.reduceLE,Int.reduceEq,Nat.reduceEqDiff,Nat.reduceAdd,Nat.reduceLeDiff,reduceIte,reduceCtorEq,Nat.reduceBEq,i64,aj re,iD,bD,bV,o];all_goals rfl
 case inr.inr.inr.inl =>
  rw[if_neg (by omega)]
  obtain⟨x,hx⟩:∃x,re.kids=[x]:=List.length_eq_one_iff.1 (q1 (by omega))
  have HH:re.kids[0]?=some x:=by rw[hx];rfl
  have eN:(0:Int)<(re.kids.length:Int):=by rw[hx];simp
  have Ua:=Dx x (FK x (by rw[hx];simp))
  have Wf:Re.HR re.kids=x.kN:=by rw[hx];simp [Re.HR]
  simp only[bV,bD]at Ua
  by_cases hm:re.mode=2
  ·rw[if_pos ⟨o,.inl hm⟩]
   unfold kV
   refine an Try.func36 rfl Try.ntmps36 Try.results36 rfl 0 62122406972767 (by simp) (by simp) ?_
   simp only[zX,Nat.reduceShiftRight,Nat.reduceMod,Nat.reduceLT,Nat.reduceMul,Nat.reduceSub,Int.reduceToNat,Int.reduceNeg,Int.reduceLT,Int.reduceLE,Int.reduceEq,Nat.reduceEqDiff,Nat.reduceAdd,Nat.reduceLeDiff,reduceIte,reduceCtorEq,Nat.reduceBEq,i64,aj re,iD,bD,bV,o,hm]
   all_goals rfl
  ·cases Ti:x.kN with
   |true =>
    rw[if_pos ⟨o,.inr (by rw[Wf,Ti])⟩]
    unfold kV
    refine an Try.func36 rfl Try.ntmps36 Try.results36 rfl 0 62122406972767 (by simp) (by simp) ?_
    simp only[zX,Nat.reduceShiftRight,Nat.reduceMod,Nat.reduceLT,Nat.reduceMul,Nat.reduceSub,Int.reduceToNat,Int.reduceNeg,Int.reduceLT,Int.reduceLE,Int.reduceEq,Nat.reduceEqDiff,Nat.reduceAdd,Nat.reduceLeDiff,reduceIte,reduceCtorEq,Nat.reduceBEq,i64,aj re,iD,bD,bV,o,hm,List.length_map,eN,HH]
    refine al Ua (by simp [ah,ah.go,aj,i64,bV,bm]) rfl ?_
    simp only[zX,Nat.reduceShiftRight,Nat.reduceMod,Nat.reduceLT,Nat.reduceMul,Nat.reduceSub,Int.reduceToNat,Int.reduceNeg,Int.reduceLT,Int.reduceLE,Int.reduceEq,Nat.reduceEqDiff,Nat.reduceAdd,Nat.reduceLeDiff,reduceIte,reduceCtorEq,Nat.reduceBEq,i64,aj re,iD,bD,bV,o,hm,Ti]
    all_goals rfl
   |false =>
    rw[if_neg (fun h=>h.2.elim hm (by rw[Wf,Ti];simp)),if_neg (by omega),if_neg (by omega),show (look||decide (re.op=7\/re.op=8))=look by rw[decide_eq_false (by omega),Bool.or_false]]
    obtain⟨A2,gr⟩:∃A2,A2=A:=⟨_,rfl⟩
    obtain⟨jg,gJ⟩:∃l,l=look:=⟨_,rfl⟩
    have dP:A2.length=10:=by rw[gr];exact hA
    have gF:∀k∈re.kids,k.bC A2 jg=false->(re.kids.all fun k=>k.bC A look)=false:=fun k hk h=>by subst gr gJ;rw[List.all_eq_false];exact⟨k,hk,by simp [h]⟩
    have kH:(∀k∈re.kids,k.bC A2 jg=true)->(re.kids.all fun k=>k.bC A look)=true:=fun h=>by subst gr gJ;rw[List.all_eq_true];exact h
    unfold kV
    refine an Try.func36 rfl Try.ntmps36 Try.results36 rfl 0 62122406972767 (by simp) (by simp) ?_
    simp only[zX,Nat.reduceShiftRight,Nat.reduceMod,Nat.reduceLT,Nat.reduceMul,Nat.reduceSub,Int.reduceToNat,Int.reduceNeg,Int.reduceLT,Int.reduceLE,Int.reduceEq,Nat.reduceEqDiff,Nat.reduceAdd,Nat.reduceLeDiff,reduceIte,reduceCtorEq,Nat.reduceBEq,i64,aj re,iD,bD,bV,o,hm,List.length_map,eN,HH]
    refine al Ua (by simp [ah,ah.go,aj,i64,bV,bm]) rfl ?_
    simp only[zX,Nat.reduceShiftRight,Nat.reduceMod,Nat.reduceLT,Nat.reduceMul,Nat.reduceSub,Int.reduceToNat,Int.reduceNeg,Int.reduceLT,Int.reduceLE,Int.reduceEq,Nat.reduceEqDiff,Nat.reduceAdd,Nat.reduceLeDiff,reduceIte,reduceCtorEq,Nat.reduceBEq,i64,aj re,iD,bD,bV,o,hm,Ti]
    refine ay (fun n e s=>∃i:Nat,n=re.kids.length-i/\i<=re.kids.length/\e 2=bV jg/\e 3=.rf 0 0 0 0/\e 4=.rf 1 0 0 0/\e 43=.d (.sl (re.kids.map Re.cells))/\e 44=i64 re.kids.length/\e 45=i64 i/\(∀x∈re.kids.take i,x.bC A2 jg=true)/\s=[aF re,bf A2])
     ⟨_,_,_,bI.refl,0,rfl,by omega,by first|rfl|(subst gJ;rfl),rfl,rfl,rfl,rfl,rfl,by simp,by first|(simp [aF,bf,iD,bD,Re.ae re,o,dP];done)|(subst gr;simp [aF,bf,bV,bD,iD,Re.ae re,o];done)|(rw[<- gr];simp [aF,bf,bV,bD,iD,Re.ae re,o];done)|(simp [aF,bf,bV,bD,iD,Re.ae re,o,gr];done)|(simp [aF,bf,bV,bD,iD,Re.ae re,gr];done)⟩ ?_
    rintro n e s ⟨i,rfl,hi,h2,h3,h4,iU,je,kF,bM,rfl⟩
    rcases Nat.lt_or_ge i re.kids.length with az|ib
    ·obtain⟨k,hk⟩:∃k,re.kids[i]?=some k:=⟨_,List.getElem?_eq_getElem az⟩
     have hm:=List.mem_of_getElem? hk
     have aK:(i:Int)<(re.kids.length:Int):=by omega
     have hi0:(0:Int)<=(i:Int):=by omega
     have ew:=ih k hm (pj k hm) A2 jg dP
     have ql:List.take 10 (A2.map bV)=A2.map bV:=List.take_of_length_le (by rw[List.length_map];omega)
     unfold kV at ew
     simp only[bV,bD]at ew
     simp only[zX,Nat.reduceShiftRight,Nat.reduceMod,Nat.reduceLT,Nat.reduceMul,Nat.reduceSub,Int.reduceToNat,Int.reduceNeg,Int.reduceLT,Int.reduceLE,Int.reduceEq,Nat.reduceEqDiff,Nat.reduceAdd,Nat.reduceLeDiff,reduceIte,reduceCtorEq,Nat.reduceBEq,aF,bf,Re.ae re,List.map_cons,List.map_nil,iD,bD,bV,h2,h3,h4,iU,je,kF,i64,aK,hi0,az,hk,dP,ql,List.length_map,List.getElem?_map,Option.map_some,Int.toNat_natCast]
     refine al ew (by rw[aj];simp [ah,ah.go,i64,kv]) rfl ?_
     cases eN:k.bC A2 jg with
     |false =>
      rw[gF k hm eN]
      simp only[zX,Nat.reduceShiftRight,Nat.reduceMod,Nat.reduceLT,Nat.reduceMul,Nat.reduceSub,Int.reduceToNat,Int.reduceNeg,Int.reduceLT,Int.reduceLE,Int.reduceEq,Nat.reduceEqDiff,Nat.reduceAdd,Nat.reduceLeDiff,reduceIte,reduceCtorEq,Nat.reduceBEq,aF,bf,Re.ae re,List.map_cons,List.map_nil,iD,bD,bV,h2,h3,h4,iU,je,kF,i64,Bool.not_false]
      all_goals rfl
     |true =>
      simp only[zX,Nat.reduceShiftRight,Nat.reduceMod,Nat.reduceLT,Nat.reduceMul,Nat.reduceSub,Int.reduceToNat,Int.reduceNeg,Int.reduceLT,Int.reduceLE,Int.reduceEq,Nat.reduceEqDiff,Nat.reduceAdd,Nat.reduceLeDiff,reduceIte,reduceCtorEq,Nat.reduceBEq,aF,bf,Re.ae re,List.map_cons,List.map_nil,iD,bD,bV,h2,h3,h4,iU,je,kF,i64,Bool.not_true]
      refine⟨re.kids.length-(i+1),_,_,by omega,bI.cut (s':=[aF re,bf A2]) 2 (by omega) (by simp [aF,bf,dP,Re.ae re,iD,bD]) (by simp [aF,bf,bV,aQ,Re.ae re,ah]) [2,3,4,43,44,45] (by simp [bB,aL,ah,h2,h3,h4,iU,je,kF,i64,bV]),i+1,rfl,az,?_,?_,?_,?_,?_,?_,?_,by simp [aF,bf,dP,Re.ae re,iD,bD]⟩ <;> (try simp only[zU,Nat.reduceBEq,Nat.reduceShiftRight,Nat.reduceMod,Nat.reduceEqDiff,reduceIte])
      ·exact h2
      ·exact h3
      ·exact h4
      ·exact iU
      ·exact je
      ·rw[br _ (by omega)];rfl
      ·intro x hx
       rcases b6 hk hx with h|rfl
       ·exact bM x h
       ·exact eN
    ·have eQ:i=re.kids.length:=by omega
     subst eQ
     rw[List.take_length]at bM
     rw[kH bM]
     simp only[zX,Nat.reduceShiftRight,Nat.reduceMod,Nat.reduceLT,Nat.reduceMul,Nat.reduceSub,Int.reduceToNat,Int.reduceNeg,Int.reduceLT,Int.reduceLE,Int.reduceEq,Nat.reduceEqDiff,Nat.reduceAdd,Nat.reduceLeDiff,reduceIte,reduceCtorEq,Nat.reduceBEq,aF,bf,Re.ae re,List.map_cons,List.map_nil,iD,bD,bV,h2,h3,h4,iU,je,kF,i64,Int.lt_irrefl]
     all_goals rfl
 case inr.inr.inr.inr.inl =>
  have ZL:=lJ o
  rw[if_neg (by omega),if_neg (by omega)]
  cases look with
  |true =>
   rw[if_pos ⟨o,.inl rfl⟩]
   unfold kV
   refine an Try.func36 rfl Try.ntmps36 Try.results36 rfl 0 62122406972767 (by simp) (by simp) ?_
   simp only[zX,Nat.reduceShiftRight,Nat.reduceMod,Nat.reduceLT,Nat.reduceMul,Nat.reduceSub,Int.reduceToNat,Int.reduceNeg,Int.reduceLT,Int.reduceLE,Int.reduceEq,Nat.reduceEqDiff,Nat.reduceAdd,Nat.reduceLeDiff,reduceIte,reduceCtorEq,Nat.reduceBEq,i64,aj re,iD,bD,bV,o]
   all_goals rfl
  |false =>
   have Qi:re.n.toNat<10:=by omega
   have n0:(0:Int)<=re.n:=by omega
   have n1:re.n<((10:Nat):Int):=by omega
   have n2:re.n<10:=by omega
   generalize hm:re.n.toNat=m at Qi
   obtain⟨y,hy⟩:∃y,A[m]?=some y:=⟨_,List.getElem?_eq_getElem (by omega)⟩
   have WJ:A.getD m false=y:=by rw[List.getD_eq_getElem?_getD,hy];rfl
   obtain⟨tl,Mw⟩:∃tl,(A.map bV).drop m=.d (.sc (.bool y))::tl:=⟨_,by rw[List.drop_eq_getElem_cons (by simpa [hA]using Qi)];congr 1;rw[List.getElem_map];congr 1;exact(List.getElem?_eq_some_iff.1 hy).2⟩
   cases y with
   |true =>
    rw[if_pos ⟨o,.inr WJ⟩]
    unfold kV
    refine an Try.func36 rfl Try.ntmps36 Try.results36 rfl 0 62122406972767 (by simp) (by simp) ?_
    simp only[zX,Nat.reduceShiftRight,Nat.reduceMod,Nat.reduceLT,Nat.reduceMul,Nat.reduceSub,Int.reduceToNat,Int.reduceNeg,Int.reduceLT,Int.reduceLE,Int.reduceEq,Nat.reduceEqDiff,Nat.reduceAdd,Nat.reduceLeDiff,reduceIte,reduceCtorEq,Nat.reduceBEq,i64,aj re,iD,bD,bV,o,hm,n0,n1,n2,hA,Mw,Nat.zero_add,Nat.mul_one,Int.toNat_natCast,List.length_map]
    all_goals rfl
   |false =>
    have eO:List.take m (A.map bV)++[.d (.sc (.bool true))]++List.drop (m+1) (A.map bV)=(A.set m true).map bV:=by
     rw[List.map_set,List.set_eq_take_append_cons_drop,if_pos (by simpa [hA]using Qi)]
     simp [bV,bD]
    rw[if_neg (fun h=>h.2.elim (by simp) (by rw[WJ];simp)),if_pos o,show (false||decide (re.op=7\/re.op=8))=false by rw[decide_eq_false (by omega)];rfl]
    obtain⟨A2,gr⟩:∃A2,A2=A.set m true:=⟨_,rfl⟩
    obtain⟨jg,gJ⟩:∃l,l=false:=⟨_,rfl⟩
    have dP:A2.length=10:=by rw[gr];simp [hA]
    have gF:∀k∈re.kids,k.bC A2 jg=false->(re.kids.all fun k=>k.bC (A.set m true) false)=false:=fun k hk h=>by subst gr;subst gJ;rw[List.all_eq_false];exact⟨k,hk,by simp [h]⟩
    have kH:(∀k∈re.kids,k.bC A2 jg=true)->(re.kids.all fun k=>k.bC (A.set m true) false)=true:=fun h=>by subst gr;subst gJ;rw[List.all_eq_true];exact h
    rw[<- gr]at eO
    unfold kV
    refine an Try.func36 rfl Try.ntmps36 Try.results36 rfl 0 62122406972767 (by simp) (by simp) ?_
    simp only[zX,Nat.reduceShiftRight,Nat.reduceMod,Nat.reduceLT,Nat.reduceMul,Nat.reduceSub,Int.reduceToNat,Int.reduceNeg,Int.reduceLT,Int.reduceLE,Int.reduceEq,Nat.reduceEqDiff,Nat.reduceAdd,Nat.reduceLeDiff,reduceIte,reduceCtorEq,Nat.reduceBEq,i64,aj re,iD,bD,bV,o,hm,n0,n1,n2,hA,Mw,Nat.zero_add,Nat.mul_one,Int.toNat_natCast,List.length_map,eO]
    refine⟨by omega,?_⟩
    refine ay (fun n e s=>∃i:Nat,n=re.kids.length-i/\i<=re.kids.length/\e 2=bV jg/\e 3=.rf 0 0 0 0/\e 4=.rf 1 0 0 0/\e 43=.d (.sl (re.kids.map Re.cells))/\e 44=i64 re.kids.length/\e 45=i64 i/\(∀x∈re.kids.take i,x.bC A2 jg=true)/\s=[aF re,bf A2])
     ⟨_,_,_,bI.refl,0,rfl,by omega,by first|rfl|(subst gJ;rfl),rfl,rfl,rfl,rfl,rfl,by simp,by first|(simp [aF,bf,iD,bD,Re.ae re,o,dP];done)|(subst gr;simp [aF,bf,bV,bD,iD,Re.ae re,o];done)|(rw[<- gr];simp [aF,bf,bV,bD,iD,Re.ae re,o];done)|(simp [aF,bf,bV,bD,iD,Re.ae re,o,gr];done)|(simp [aF,bf,bV,bD,iD,Re.ae re,gr];done)⟩ ?_
    rintro n e s ⟨i,rfl,hi,h2,h3,h4,iU,je,kF,bM,rfl⟩
    rcases Nat.lt_or_ge i re.kids.length with az|ib
    ·obtain⟨k,hk⟩:∃k,re.kids[i]?=some k:=⟨_,List.getElem?_eq_getElem az⟩
     have hm:=List.mem_of_getElem? hk
     have aK:(i:Int)<(re.kids.length:Int):=by omega
     have hi0:(0:Int)<=(i:Int):=by omega
     have ew:=ih k hm (pj k hm) A2 jg dP
     have ql:List.take 10 (A2.map bV)=A2.map bV:=List.take_of_length_le (by rw[List.length_map];omega)
     unfold kV at ew
     simp only[bV,bD]at ew
     simp only[zX,Nat.reduceShiftRight,Nat.reduceMod,Nat.reduceLT,Nat.reduceMul,Nat.reduceSub,Int.reduceToNat,Int.reduceNeg,Int.reduceLT,Int.reduceLE,Int.reduceEq,Nat.reduceEqDiff,Nat.reduceAdd,Nat.reduceLeDiff,reduceIte,reduceCtorEq,Nat.reduceBEq,aF,bf,Re.ae re,List.map_cons,List.map_nil,iD,bD,bV,h2,h3,h4,iU,je,kF,i64,aK,hi0,az,hk,dP,ql,List.length_map,List.getElem?_map,Option.map_some,Int.toNat_natCast]
     refine al ew (by rw[aj];simp [ah,ah.go,i64,kv]) rfl ?_
     cases eN:k.bC A2 jg with
     |false =>
      rw[gF k hm eN]
      simp only[zX,Nat.reduceShiftRight,Nat.reduceMod,Nat.reduceLT,Nat.reduceMul,Nat.reduceSub,Int.reduceToNat,Int.reduceNeg,Int.reduceLT,Int.reduceLE,Int.reduceEq,Nat.reduceEqDiff,Nat.reduceAdd,Nat.reduceLeDiff,reduceIte,reduceCtorEq,Nat.reduceBEq,aF,bf,Re.ae re,List.map_cons,List.map_nil,iD,bD,bV,h2,h3,h4,iU,je,kF,i64,Bool.not_false]
      all_goals rfl
     |true =>
      simp only[zX,Nat.reduceShiftRight,Nat.reduceMod,Nat.reduceLT,Nat.reduceMul,Nat.reduceSub,Int.reduceToNat,Int.reduceNeg,Int.reduceLT,Int.reduceLE,Int.reduceEq,Nat.reduceEqDiff,Nat.reduceAdd,Nat.reduceLeDiff,reduceIte,reduceCtorEq,Nat.reduceBEq,aF,bf,Re.ae re,List.map_cons,List.map_nil,iD,bD,bV,h2,h3,h4,iU,je,kF,i64,Bool.not_true]
      refine⟨re.kids.length-(i+1),_,_,by omega,bI.cut (s':=[aF re,bf A2]) 2 (by omega) (by simp [aF,bf,dP,Re.ae re,iD,bD]) (by simp [aF,bf,bV,aQ,Re.ae re,ah]) [2,3,4,43,44,45] (by simp [bB,aL,ah,h2,h3,h4,iU,je,kF,i64,bV]),i+1,rfl,az,?_,?_,?_,?_,?_,?_,?_,by simp [aF,bf,dP,Re.ae re,iD,bD]⟩ <;> (try simp only[zU,Nat.reduceBEq,Nat.reduceShiftRight,Nat.reduceMod,Nat.reduceEqDiff,reduceIte])
      ·exact h2
      ·exact h3
      ·exact h4
      ·exact iU
      ·exact je
      ·rw[br _ (by omega)];rfl
      ·intro x hx
       rcases b6 hk hx with h|rfl
       ·exact bM x h
       ·exact eN
    ·have eQ:i=re.kids.length:=by omega
     subst eQ
     rw[List.take_length]at bM
     rw[kH bM]
     simp only[zX,Nat.reduceShiftRight,Nat.reduceMod,Nat.reduceLT,Nat.reduceMul,Nat.reduceSub,Int.reduceToNat,Int.reduceNeg,Int.reduceLT,Int.reduceLE,Int.reduceEq,Nat.reduceEqDiff,Nat.reduceAdd,Nat.reduceLeDiff,reduceIte,reduceCtorEq,Nat.reduceBEq,aF,bf,Re.ae re,List.map_cons,List.map_nil,iD,bD,bV,h2,h3,h4,iU,je,kF,i64,Int.lt_irrefl]
     all_goals rfl
 case inr.inr.inr.inr.inr.inl =>
  rw[if_neg (by omega),if_neg (by omega),if_neg (by omega),if_neg (by omega),show (look||decide (re.op=7\/re.op=8))=true by rw[decide_eq_true (by omega),Bool.or_true]]
  obtain⟨A2,gr⟩:∃A2,A2=A:=⟨_,rfl⟩
  obtain⟨jg,gJ⟩:∃l,l=true:=⟨_,rfl⟩
  have dP:A2.length=10:=by rw[gr];simp [hA]
  have gF:∀k∈re.kids,k.bC A2 jg=false->(re.kids.all fun k=>k.bC A true)=false:=fun k hk h=>by subst gr;subst gJ;rw[List.all_eq_false];exact⟨k,hk,by simp [h]⟩
  have kH:(∀k∈re.kids,k.bC A2 jg=true)->(re.kids.all fun k=>k.bC A true)=true:=fun h=>by subst gr;subst gJ;rw[List.all_eq_true];exact h
  unfold kV
  refine an Try.func36 rfl Try.ntmps36 Try.results36 rfl 0 62122406972767 (by simp) (by simp) ?_
  simp only[zX,Nat.reduceShiftRight,Nat.reduceMod,Nat.reduceLT,Nat.reduceMul,Nat.reduceSub,Int.reduceToNat,Int.reduceNeg,Int.reduceLT,Int.reduceLE,Int.reduceEq,Nat.reduceEqDiff,Nat.reduceAdd,Nat.reduceLeDiff,reduceIte,reduceCtorEq,Nat.reduceBEq,i64,aj re,iD,bD,bV,o]
  refine ay (fun n e s=>∃i:Nat,n=re.kids.length-i/\i<=re.kids.length/\e 2=bV jg/\e 3=.rf 0 0 0 0/\e 4=.rf 1 0 0 0/\e 43=.d (.sl (re.kids.map Re.cells))/\e 44=i64 re.kids.length/\e 45=i64 i/\(∀x∈re.kids.take i,x.bC A2 jg=true)/\s=[aF re,bf A2])
   ⟨_,_,_,bI.refl,0,rfl,by omega,by first|rfl|(subst gJ;rfl),rfl,rfl,rfl,rfl,rfl,by simp,by first|(simp [aF,bf,iD,bD,Re.ae re,o,dP];done)|(subst gr;simp [aF,bf,bV,bD,iD,Re.ae re,o];done)|(rw[<- gr];simp [aF,bf,bV,bD,iD,Re.ae re,o];done)|(simp [aF,bf,bV,bD,iD,Re.ae re,o,gr];done)|(simp [aF,bf,bV,bD,iD,Re.ae re,gr];done)⟩ ?_
  rintro n e s ⟨i,rfl,hi,h2,h3,h4,iU,je,kF,bM,rfl⟩
  rcases Nat.lt_or_ge i re.kids.length with az|ib
  ·obtain⟨k,hk⟩:∃k,re.kids[i]?=some k:=⟨_,List.getElem?_eq_getElem az⟩
   have hm:=List.mem_of_getElem? hk
   have aK:(i:Int)<(re.kids.length:Int):=by omega
   have hi0:(0:Int)<=(i:Int):=by omega
   have ew:=ih k hm (pj k hm) A2 jg dP
   have ql:List.take 10 (A2.map bV)=A2.map bV:=List.take_of_length_le (by rw[List.length_map];omega)
   unfold kV at ew
   simp only[bV,bD]at ew
   simp only[zX,Nat.reduceShiftRight,Nat.reduceMod,Nat.reduceLT,Nat.reduceMul,Nat.reduceSub,Int.reduceToNat,Int.reduceNeg,Int.reduceLT,Int.reduceLE,Int.reduceEq,Nat.reduceEqDiff,Nat.reduceAdd,Nat.reduceLeDiff,reduceIte,reduceCtorEq,Nat.reduceBEq,aF,bf,Re.ae re,List.map_cons,List.map_nil,iD,bD,bV,h2,h3,h4,iU,je,kF,i64,aK,hi0,az,hk,dP,ql,List.length_map,List.getElem?_map,Option.map_some,Int.toNat_natCast]
   refine al ew (by rw[aj];simp [ah,ah.go,i64,kv]) rfl ?_
   cases eN:k.bC A2 jg with
   |false =>
    rw[gF k hm eN]
    simp only[zX,Nat.reduceShiftRight,Nat.reduceMod,Nat.reduceLT,Nat.reduceMul,Nat.reduceSub,Int.reduceToNat,Int.reduceNeg,Int.reduceLT,Int.reduceLE,Int.reduceEq,Nat.reduceEqDiff,Nat.reduceAdd,Nat.reduceLeDiff,reduceIte,reduceCtorEq,Nat.reduceBEq,aF,bf,Re.ae re,List.map_cons,List.map_nil,iD,bD,bV,h2,h3,h4,iU,je,kF,i64,Bool.not_false]
    all_goals rfl
   |true =>
    simp only[zX,Nat.reduceShiftRight,Nat.reduceMod,Nat.reduceLT,Nat.reduceMul,Nat.reduceSub,Int.reduceToNat,Int.reduceNeg,Int.reduceLT,Int.reduceLE,Int.reduceEq,Nat.reduceEqDiff,Nat.reduceAdd,Nat.reduceLeDiff,reduceIte,reduceCtorEq,Nat.reduceBEq,aF,bf,Re.ae re,List.map_cons,List.map_nil,iD,bD,bV,h2,h3,h4,iU,je,kF,i64,Bool.not_true]
    refine⟨re.kids.length-(i+1),_,_,by omega,bI.cut (s':=[aF re,bf A2]) 2 (by omega) (by simp [aF,bf,dP,Re.ae re,iD,bD]) (by simp [aF,bf,bV,aQ,Re.ae re,ah]) [2,3,4,43,44,45] (by simp [bB,aL,ah,h2,h3,h4,iU,je,kF,i64,bV]),i+1,rfl,az,?_,?_,?_,?_,?_,?_,?_,by simp [aF,bf,dP,Re.ae re,iD,bD]⟩ <;> (try simp only[zU,Nat.reduceBEq,Nat.reduceShiftRight,Nat.reduceMod,Nat.reduceEqDiff,reduceIte])
    ·exact h2
    ·exact h3
    ·exact h4
    ·exact iU
    ·exact je
    ·rw[br _ (by omega)];rfl
    ·intro x hx
     rcases b6 hk hx with h|rfl
     ·exact bM x h
     ·exact eN
  ·have eQ:i=re.kids.length:=by omega
   subst eQ
   rw[List.take_length]at bM
   rw[kH bM]
   simp only[zX,Nat.reduceShiftRight,Nat.reduceMod,Nat.reduceLT,Nat.reduceMul,Nat.reduceSub,Int.reduceToNat,Int.reduceNeg,Int.reduceLT,Int.reduceLE,Int.reduceEq,Nat.reduceEqDiff,Nat.reduceAdd,Nat.reduceLeDiff,reduceIte,reduceCtorEq,Nat.reduceBEq,aF,bf,Re.ae re,List.map_cons,List.map_nil,iD,bD,bV,h2,h3,h4,iU,je,kF,i64,Int.lt_irrefl]
   all_goals rfl
 case inr.inr.inr.inr.inr.inr.inl =>
  rw[if_neg (by omega),if_neg (by omega),if_neg (by omega),if_neg (by omega),show (look||decide (re.op=7\/re.op=8))=true by rw[decide_eq_true (by omega),Bool.or_true]]
  obtain⟨A2,gr⟩:∃A2,A2=A:=⟨_,rfl⟩
  obtain⟨jg,gJ⟩:∃l,l=true:=⟨_,rfl⟩
  have dP:A2.length=10:=by rw[gr];simp [hA]
  have gF:∀k∈re.kids,k.bC A2 jg=false->(re.kids.all fun k=>k.bC A true)=false:=fun k hk h=>by subst gr;subst gJ;rw[List.all_eq_false];exact⟨k,hk,by simp [h]⟩
  have kH:(∀k∈re.kids,k.bC A2 jg=true)->(re.kids.all fun k=>k.bC A true)=true:=fun h=>by subst gr;subst gJ;rw[List.all_eq_true];exact h
  unfold kV
  refine an Try.func36 rfl Try.ntmps36 Try.results36 rfl 0 62122406972767 (by simp) (by simp) ?_
  simp only[zX,Nat.reduceShiftRight,Nat.reduceMod,Nat.reduceLT,Nat.reduceMul,Nat.reduceSub,Int.reduceToNat,Int.reduceNeg,Int.reduceLT,Int.reduceLE,Int.reduceEq,Nat.reduceEqDiff,Nat.reduceAdd,Nat.reduceLeDiff,reduceIte,reduceCtorEq,Nat.reduceBEq,i64,aj re,iD,bD,bV,o]
  refine ay (fun n e s=>∃i:Nat,n=re.kids.length-i/\i<=re.kids.length/\e 2=bV jg/\e 3=.rf 0 0 0 0/\e 4=.rf 1 0 0 0/\e 43=.d (.sl (re.kids.map Re.cells))/\e 44=i64 re.kids.length/\e 45=i64 i/\(∀x∈re.kids.take i,x.bC A2 jg=true)/\s=[aF re,bf A2])
   ⟨_,_,_,bI.refl,0,rfl,by omega,by first|rfl|(subst gJ;rfl),rfl,rfl,rfl,rfl,rfl,by simp,by first|(simp [aF,bf,iD,bD,Re.ae re,o,dP];done)|(subst gr;simp [aF,bf,bV,bD,iD,Re.ae re,o];done)|(rw[<- gr];simp [aF,bf,bV,bD,iD,Re.ae re,o];done)|(simp [aF,bf,bV,bD,iD,Re.ae re,o,gr];done)|(simp [aF,bf,bV,bD,iD,Re.ae re,gr];done)⟩ ?_
  rintro n e s ⟨i,rfl,hi,h2,h3,h4,iU,je,kF,bM,rfl⟩
  rcases Nat.lt_or_ge i re.kids.length with az|ib
  ·obtain⟨k,hk⟩:∃k,re.kids[i]?=some k:=⟨_,List.getElem?_eq_getElem az⟩
   have hm:=List.mem_of_getElem? hk
   have aK:(i:Int)<(re.kids.length:Int):=by omega
   have hi0:(0:Int)<=(i:Int):=by omega
   have ew:=ih k hm (pj k hm) A2 jg dP
   have ql:List.take 10 (A2.map bV)=A2.map bV:=List.take_of_length_le (by rw[List.length_map];omega)
   unfold kV at ew
   simp only[bV,bD]at ew
   simp only[zX,Nat.reduceShiftRight,Nat.reduceMod,Nat.reduceLT,Nat.reduceMul,Nat.reduceSub,Int.reduceToNat,Int.reduceNeg,Int.reduceLT,Int.reduceLE,Int.reduceEq,Nat.reduceEqDiff,Nat.reduceAdd,Nat.reduceLeDiff,reduceIte,reduceCtorEq,Nat.reduceBEq,aF,bf,Re.ae re,List.map_cons,List.map_nil,iD,bD,bV,h2,h3,h4,iU,je,kF,i64,aK,hi0,az,hk,dP,ql,List.length_map,List.getElem?_map,Option.map_some,Int.toNat_natCast]
   refine al ew (by rw[aj];simp [ah,ah.go,i64,kv]) rfl ?_
   cases eN:k.bC A2 jg with
   |false =>
    rw[gF k hm eN]
    simp only[zX,Nat.reduceShiftRight,Nat.reduceMod,Nat.reduceLT,Nat.reduceMul,Nat.reduceSub,Int.reduceToNat,Int.reduceNeg,Int.reduceLT,Int.reduceLE,Int.reduceEq,Nat.reduceEqDiff,Nat.reduceAdd,Nat.reduceLeDiff,reduceIte,reduceCtorEq,Nat.reduceBEq,aF,bf,Re.ae re,List.map_cons,List.map_nil,iD,bD,bV,h2,h3,h4,iU,je,kF,i64,Bool.not_false]
    all_goals rfl
   |true =>
    simp only[zX,Nat.reduceShiftRight,Nat.reduceMod,Nat.reduceLT,Nat.reduceMul,Nat.reduceSub,Int.reduceToNat,Int.reduceNeg,Int.reduceLT,Int.reduceLE,Int.reduceEq,Nat.reduceEqDiff,Nat.reduceAdd,Nat.reduceLeDiff,reduceIte,reduceCtorEq,Nat.reduceBEq,aF,bf,Re.ae re,List.map_cons,List.map_nil,iD,bD,bV,h2,h3,h4,iU,je,kF,i64,Bool.not_true]
    refine⟨re.kids.length-(i+1),_,_,by omega,bI.cut (s':=[aF re,bf A2]) 2 (by omega) (by simp [aF,bf,dP,Re.ae re,iD,bD]) (by simp [aF,bf,bV,aQ,Re.ae re,ah]) [2,3,4,43,44,45] (by simp [bB,aL,ah,h2,h3,h4,iU,je,kF,i64,bV]),i+1,rfl,az,?_,?_,?_,?_,?_,?_,?_,by simp [aF,bf,dP,Re.ae re,iD,bD]⟩ <;> (try simp only[zU,Nat.reduceBEq,Nat.reduceShiftRight,Nat.reduceMod,Nat.reduceEqDiff,reduceIte])
    ·exact h2
    ·exact h3
    ·exact h4
    ·exact iU
    ·exact je
    ·rw[br _ (by omega)];rfl
    ·intro x hx
     rcases b6 hk hx with h|rfl
     ·exact bM x h
     ·exact eN
  ·have eQ:i=re.kids.length:=by omega
   subst eQ
   rw[List.take_length]at bM
   rw[kH bM]
   simp only[zX,Nat.reduceShiftRight,Nat.reduceMod,Nat.reduceLT,Nat.reduceMul,Nat.reduceSub,Int.reduceToNat,Int.reduceNeg,Int.reduceLT,Int.reduceLE,Int.reduceEq,Nat.reduceEqDiff,Nat.reduceAdd,Nat.reduceLeDiff,reduceIte,reduceCtorEq,Nat.reduceBEq,aF,bf,Re.ae re,List.map_cons,List.map_nil,iD,bD,bV,h2,h3,h4,iU,je,kF,i64,Int.lt_irrefl]
   all_goals rfl
 case inr.inr.inr.inr.inr.inr.inr.inl =>
  rw[if_neg (by omega),if_neg (by omega),if_neg (by omega),if_neg (by omega),show (look||decide (re.op=7\/re.op=8))=look by rw[decide_eq_false (by omega),Bool.or_false]]
  obtain⟨A2,gr⟩:∃A2,A2=A:=⟨_,rfl⟩
  obtain⟨jg,gJ⟩:∃l,l=look:=⟨_,rfl⟩
  have dP:A2.length=10:=by rw[gr];simp [hA]
  have gF:∀k∈re.kids,k.bC A2 jg=false->(re.kids.all fun k=>k.bC A look)=false:=fun k hk h=>by subst gr;subst gJ;rw[List.all_eq_false];exact⟨k,hk,by simp [h]⟩
  have kH:(∀k∈re.kids,k.bC A2 jg=true)->(re.kids.all fun k=>k.bC A look)=true:=fun h=>by subst gr;subst gJ;rw[List.all_eq_true];exact h
  unfold kV
  refine an Try.func36 rfl Try.ntmps36 Try.results36 rfl 0 62122406972767 (by simp) (by simp) ?_
  simp only[zX,Nat.reduceShiftRight,Nat.reduceMod,Nat.reduceLT,Nat.reduceMul,Nat.reduceSub,Int.reduceToNat,Int.reduceNeg,Int.reduceLT,Int.reduceLE,Int.reduceEq,Nat.reduceEqDiff,Nat.reduceAdd,Nat.reduceLeDiff,reduceIte,reduceCtorEq,Nat.reduceBEq,i64,aj re,iD,bD,bV,o]
  refine ay (fun n e s=>∃i:Nat,n=re.kids.length-i/\i<=re.kids.length/\e 2=bV jg/\e 3=.rf 0 0 0 0/\e 4=.rf 1 0 0 0/\e 43=.d (.sl (re.kids.map Re.cells))/\e 44=i64 re.kids.length/\e 45=i64 i/\(∀x∈re.kids.take i,x.bC A2 jg=true)/\s=[aF re,bf A2])
   ⟨_,_,_,bI.refl,0,rfl,by omega,by first|rfl|(subst gJ;rfl),rfl,rfl,rfl,rfl,rfl,by simp,by first|(simp [aF,bf,iD,bD,Re.ae re,o,dP];done)|(subst gr;simp [aF,bf,bV,bD,iD,Re.ae re,o];done)|(rw[<- gr];simp [aF,bf,bV,bD,iD,Re.ae re,o];done)|(simp [aF,bf,bV,bD,iD,Re.ae re,o,gr];done)|(simp [aF,bf,bV,bD,iD,Re.ae re,gr];done)⟩ ?_
  rintro n e s ⟨i,rfl,hi,h2,h3,h4,iU,je,kF,bM,rfl⟩
  rcases Nat.lt_or_ge i re.kids.length with az|ib
  ·obtain⟨k,hk⟩:∃k,re.kids[i]?=some k:=⟨_,List.getElem?_eq_getElem az⟩
   have hm:=List.mem_of_getElem? hk
   have aK:(i:Int)<(re.kids.length:Int):=by omega
   have hi0:(0:Int)<=(i:Int):=by omega
   have ew:=ih k hm (pj k hm) A2 jg dP
   have ql:List.take 10 (A2.map bV)=A2.map bV:=List.take_of_length_le (by rw[List.length_map];omega)
   unfold kV at ew
   simp only[bV,bD]at ew
   simp only[zX,Nat.reduceShiftRight,Nat.reduceMod,Nat.reduceLT,Nat.reduceMul,Nat.reduceSub,Int.reduceToNat,Int.reduceNeg,Int.reduceLT,Int.reduceLE,Int.reduceEq,Nat.reduceEqDiff,Nat.reduceAdd,Nat.reduceLeDiff,reduceIte,reduceCtorEq,Nat.reduceBEq,aF,bf,Re.ae re,List.map_cons,List.map_nil,iD,bD,bV,h2,h3,h4,iU,je,kF,i64,aK,hi0,az,hk,dP,ql,List.length_map,List.getElem?_map,Option.map_some,Int.toNat_natCast]
   refine al ew (by rw[aj];simp [ah,ah.go,i64,kv]) rfl ?_
   cases eN:k.bC A2 jg with
   |false =>
    rw[gF k hm eN]
    simp only[zX,Nat.reduceShiftRight,Nat.reduceMod,Nat.reduceLT,Nat.reduceMul,Nat.reduceSub,Int.reduceToNat,Int.reduceNeg,Int.reduceLT,Int.reduceLE,Int.reduceEq,Nat.reduceEqDiff,Nat.reduceAdd,Nat.reduceLeDiff,reduceIte,reduceCtorEq,Nat.reduceBEq,aF,bf,Re.ae re,List.map_cons,List.map_nil,iD,bD,bV,h2,h3,h4,iU,je,kF,i64,Bool.not_false]
    all_goals rfl
   |true =>
    simp only[zX,Nat.reduceShiftRight,Nat.reduceMod,Nat.reduceLT,Nat.reduceMul,Nat.reduceSub,Int.reduceToNat,Int.reduceNeg,Int.reduceLT,Int.reduceLE,Int.reduceEq,Nat.reduceEqDiff,Nat.reduceAdd,Nat.reduceLeDiff,reduceIte,reduceCtorEq,Nat.reduceBEq,aF,bf,Re.ae re,List.map_cons,List.map_nil,iD,bD,bV,h2,h3,h4,iU,je,kF,i64,Bool.not_true]
    refine⟨re.kids.length-(i+1),_,_,by omega,bI.cut (s':=[aF re,bf A2]) 2 (by omega) (by simp [aF,bf,dP,Re.ae re,iD,bD]) (by simp [aF,bf,bV,aQ,Re.ae re,ah]) [2,3,4,43,44,45] (by simp [bB,aL,ah,h2,h3,h4,iU,je,kF,i64,bV]),i+1,rfl,az,?_,?_,?_,?_,?_,?_,?_,by simp [aF,bf,dP,Re.ae re,iD,bD]⟩ <;> (try simp only[zU,Nat.reduceBEq,Nat.reduceShiftRight,Nat.reduceMod,Nat.reduceEqDiff,reduceIte])
    ·exact h2
    ·exact h3
    ·exact h4
    ·exact iU
    ·exact je
    ·rw[br _ (by omega)];rfl
    ·intro x hx
     rcases b6 hk hx with h|rfl
     ·exact bM x h
     ·exact eN
  ·have eQ:i=re.kids.length:=by omega
   subst eQ
   rw[List.take_length]at bM
   rw[kH bM]
   simp only[zX,Nat.reduceShiftRight,Nat.reduceMod,Nat.reduceLT,Nat.reduceMul,Nat.reduceSub,Int.reduceToNat,Int.reduceNeg,Int.reduceLT,Int.reduceLE,Int.reduceEq,Nat.reduceEqDiff,Nat.reduceAdd,Nat.reduceLeDiff,reduceIte,reduceCtorEq,Nat.reduceBEq,aF,bf,Re.ae re,List.map_cons,List.map_nil,iD,bD,bV,h2,h3,h4,iU,je,kF,i64,Int.lt_irrefl]
   all_goals rfl
 case inr.inr.inr.inr.inr.inr.inr.inr.inl =>
  rw[if_neg (by omega),if_neg (by omega),if_neg (by omega),if_neg (by omega),show (look||decide (re.op=7\/re.op=8))=look by rw[decide_eq_false (by omega),Bool.or_false]]
  obtain⟨A2,gr⟩:∃A2,A2=A:=⟨_,rfl⟩
  obtain⟨jg,gJ⟩:∃l,l=look:=⟨_,rfl⟩
  have dP:A2.length=10:=by rw[gr];simp [hA]
  have gF:∀k∈re.kids,k.bC A2 jg=false->(re.kids.all fun k=>k.bC A look)=false:=fun k hk h=>by subst gr;subst gJ;rw[List.all_eq_false];exact⟨k,hk,by simp [h]⟩
  have kH:(∀k∈re.kids,k.bC A2 jg=true)->(re.kids.all fun k=>k.bC A look)=true:=fun h=>by subst gr;subst gJ;rw[List.all_eq_true];exact h
  unfold kV
  refine an Try.func36 rfl Try.ntmps36 Try.results36 rfl 0 62122406972767 (by simp) (by simp) ?_
  simp only[zX,Nat.reduceShiftRight,Nat.reduceMod,Nat.reduceLT,Nat.reduceMul,Nat.reduceSub,Int.reduceToNat,Int.reduceNeg,Int.reduceLT,Int.reduceLE,Int.reduceEq,Nat.reduceEqDiff,Nat.reduceAdd,Nat.reduceLeDiff,reduceIte,reduceCtorEq,Nat.reduceBEq,i64,aj re,iD,bD,bV,o]
  refine ay (fun n e s=>∃i:Nat,n=re.kids.length-i/\i<=re.kids.length/\e 2=bV jg/\e 3=.rf 0 0 0 0/\e 4=.rf 1 0 0 0/\e 43=.d (.sl (re.kids.map Re.cells))/\e 44=i64 re.kids.length/\e 45=i64 i/\(∀x∈re.kids.take i,x.bC A2 jg=true)/\s=[aF re,bf A2])
   ⟨_,_,_,bI.refl,0,rfl,by omega,by first|rfl|(subst gJ;rfl),rfl,rfl,rfl,rfl,rfl,by simp,by first|(simp [aF,bf,iD,bD,Re.ae re,o,dP];done)|(subst gr;simp [aF,bf,bV,bD,iD,Re.ae re,o];done)|(rw[<- gr];simp [aF,bf,bV,bD,iD,Re.ae re,o];done)|(simp [aF,bf,bV,bD,iD,Re.ae re,o,gr];done)|(simp [aF,bf,bV,bD,iD,Re.ae re,gr];done)⟩ ?_
  rintro n e s ⟨i,rfl,hi,h2,h3,h4,iU,je,kF,bM,rfl⟩
  rcases Nat.lt_or_ge i re.kids.length with az|ib
  ·obtain⟨k,hk⟩:∃k,re.kids[i]?=some k:=⟨_,List.getElem?_eq_getElem az⟩
   have hm:=List.mem_of_getElem? hk
   have aK:(i:Int)<(re.kids.length:Int):=by omega
   have hi0:(0:Int)<=(i:Int):=by omega
   have ew:=ih k hm (pj k hm) A2 jg dP
   have ql:List.take 10 (A2.map bV)=A2.map bV:=List.take_of_length_le (by rw[List.length_map];omega)
   unfold kV at ew
   simp only[bV,bD]at ew
   simp only[zX,Nat.reduceShiftRight,Nat.reduceMod,Nat.reduceLT,Nat.reduceMul,Nat.reduceSub,Int.reduceToNat,Int.reduceNeg,Int.reduceLT,Int.reduceLE,Int.reduceEq,Nat.reduceEqDiff,Nat.reduceAdd,Nat.reduceLeDiff,reduceIte,reduceCtorEq,Nat.reduceBEq,aF,bf,Re.ae re,List.map_cons,List.map_nil,iD,bD,bV,h2,h3,h4,iU,je,kF,i64,aK,hi0,az,hk,dP,ql,List.length_map,List.getElem?_map,Option.map_some,Int.toNat_natCast]
   refine al ew (by rw[aj];simp [ah,ah.go,i64,kv]) rfl ?_
   cases eN:k.bC A2 jg with
   |false =>
    rw[gF k hm eN]
    simp only[zX,Nat.reduceShiftRight,Nat.reduceMod,Nat.reduceLT,Nat.reduceMul,Nat.reduceSub,Int.reduceToNat,Int.reduceNeg,Int.reduceLT,Int.reduceLE,Int.reduceEq,Nat.reduceEqDiff,Nat.reduceAdd,Nat.reduceLeDiff,reduceIte,reduceCtorEq,Nat.reduceBEq,aF,bf,Re.ae re,List.map_cons,List.map_nil,iD,bD,bV,h2,h3,h4,iU,je,kF,i64,Bool.not_false]
    all_goals rfl
   |true =>
    simp only[zX,Nat.reduceShiftRight,Nat.reduceMod,Nat.reduceLT,Nat.reduceMul,Nat.reduceSub,Int.reduceToNat,Int.reduceNeg,Int.reduceLT,Int.reduceLE,Int.reduceEq,Nat.reduceEqDiff,Nat.reduceAdd,Nat.reduceLeDiff,reduceIte,reduceCtorEq,Nat.reduceBEq,aF,bf,Re.ae re,List.map_cons,List.map_nil,iD,bD,bV,h2,h3,h4,iU,je,kF,i64,Bool.not_true]
    refine⟨re.kids.length-(i+1),_,_,by omega,bI.cut (s':=[aF re,bf A2]) 2 (by omega) (by simp [aF,bf,dP,Re.ae re,iD,bD]) (by simp [aF,bf,bV,aQ,Re.ae re,ah]) [2,3,4,43,44,45] (by simp [bB,aL,ah,h2,h3,h4,iU,je,kF,i64,bV]),i+1,rfl,az,?_,?_,?_,?_,?_,?_,?_,by simp [aF,bf,dP,Re.ae re,iD,bD]⟩ <;> (try simp only[zU,Nat.reduceBEq,Nat.reduceShiftRight,Nat.reduceMod,Nat.reduceEqDiff,reduceIte])
    ·exact h2
    ·exact h3
    ·exact h4
    ·exact iU
    ·exact je
    ·rw[br _ (by omega)];rfl
    ·intro x hx
     rcases b6 hk hx with h|rfl
     ·exact bM x h
     ·exact eN
  ·have eQ:i=re.kids.length:=by omega
   subst eQ
   rw[List.take_length]at bM
   rw[kH bM]
   simp only[zX,Nat.reduceShiftRight,Nat.reduceMod,Nat.reduceLT,Nat.reduceMul,Nat.reduceSub,Int.reduceToNat,Int.reduceNeg,Int.reduceLT,Int.reduceLE,Int.reduceEq,Nat.reduceEqDiff,Nat.reduceAdd,Nat.reduceLeDiff,reduceIte,reduceCtorEq,Nat.reduceBEq,aF,bf,Re.ae re,List.map_cons,List.map_nil,iD,bD,bV,h2,h3,h4,iU,je,kF,i64,Int.lt_irrefl]
   all_goals rfl
 case inr.inr.inr.inr.inr.inr.inr.inr.inr.inl =>
  rw[if_neg (by omega),if_neg (by omega),if_neg (by omega),if_neg (by omega),show (look||decide (re.op=7\/re.op=8))=look by rw[decide_eq_false (by omega),Bool.or_false]]
  obtain⟨A2,gr⟩:∃A2,A2=A:=⟨_,rfl⟩
  obtain⟨jg,gJ⟩:∃l,l=look:=⟨_,rfl⟩
  have dP:A2.length=10:=by rw[gr];simp [hA]
  have gF:∀k∈re.kids,k.bC A2 jg=false->(re.kids.all fun k=>k.bC A look)=false:=fun k hk h=>by subst gr;subst gJ;rw[List.all_eq_false];exact⟨k,hk,by simp [h]⟩
  have kH:(∀k∈re.kids,k.bC A2 jg=true)->(re.kids.all fun k=>k.bC A look)=true:=fun h=>by subst gr;subst gJ;rw[List.all_eq_true];exact h
  unfold kV
  refine an Try.func36 rfl Try.ntmps36 Try.results36 rfl 0 62122406972767 (by simp) (by simp) ?_
  simp only[zX,Nat.reduceShiftRight,Nat.reduceMod,Nat.reduceLT,Nat.reduceMul,Nat.reduceSub,Int.reduceToNat,Int.reduceNeg,Int.reduceLT,Int.reduceLE,Int.reduceEq,Nat.reduceEqDiff,Nat.reduceAdd,Nat.reduceLeDiff,reduceIte,reduceCtorEq,Nat.reduceBEq,i64,aj re,iD,bD,bV,o]
  refine ay (fun n e s=>∃i:Nat,n=re.kids.length-i/\i<=re.kids.length/\e 2=bV jg/\e 3=.rf 0 0 0 0/\e 4=.rf 1 0 0 0/\e 43=.d (.sl (re.kids.map Re.cells))/\e 44=i64 re.kids.length/\e 45=i64 i/\(∀x∈re.kids.take i,x.bC A2 jg=true)/\s=[aF re,bf A2])
   ⟨_,_,_,bI.refl,0,rfl,by omega,by first|rfl|(subst gJ;rfl),rfl,rfl,rfl,rfl,rfl,by simp,by first|(simp [aF,bf,iD,bD,Re.ae re,o,dP];done)|(subst gr;simp [aF,bf,bV,bD,iD,Re.ae re,o];done)|(rw[<- gr];simp [aF,bf,bV,bD,iD,Re.ae re,o];done)|(simp [aF,bf,bV,bD,iD,Re.ae re,o,gr];done)|(simp [aF,bf,bV,bD,iD,Re.ae re,gr];done)⟩ ?_
  rintro n e s ⟨i,rfl,hi,h2,h3,h4,iU,je,kF,bM,rfl⟩
  rcases Nat.lt_or_ge i re.kids.length with az|ib
  ·obtain⟨k,hk⟩:∃k,re.kids[i]?=some k:=⟨_,List.getElem?_eq_getElem az⟩
   have hm:=List.mem_of_getElem? hk
   have aK:(i:Int)<(re.kids.length:Int):=by omega
   have hi0:(0:Int)<=(i:Int):=by omega
   have ew:=ih k hm (pj k hm) A2 jg dP
   have ql:List.take 10 (A2.map bV)=A2.map bV:=List.take_of_length_le (by rw[List.length_map];omega)
   unfold kV at ew
   simp only[bV,bD]at ew
   simp only[zX,Nat.reduceShiftRight,Nat.reduceMod,Nat.reduceLT,Nat.reduceMul,Nat.reduceSub,Int.reduceToNat,Int.reduceNeg,Int.reduceLT,Int.reduceLE,Int.reduceEq,Nat.reduceEqDiff,Nat.reduceAdd,Nat.reduceLeDiff,reduceIte,reduceCtorEq,Nat.reduceBEq,aF,bf,Re.ae re,List.map_cons,List.map_nil,iD,bD,bV,h2,h3,h4,iU,je,kF,i64,aK,hi0,az,hk,dP,ql,List.length_map,List.getElem?_map,Option.map_some,Int.toNat_natCast]
   refine al ew (by rw[aj];simp [ah,ah.go,i64,kv]) rfl ?_
   cases eN:k.bC A2 jg with
   |false =>
    rw[gF k hm eN]
    simp only[zX,Nat.reduceShiftRight,Nat.reduceMod,Nat.reduceLT,Nat.reduceMul,Nat.reduceSub,Int.reduceToNat,Int.reduceNeg,Int.reduceLT,Int.reduceLE,Int.reduceEq,Nat.reduceEqDiff,Nat.reduceAdd,Nat.reduceLeDiff,reduceIte,reduceCtorEq,Nat.reduceBEq,aF,bf,Re.ae re,List.map_cons,List.map_nil,iD,bD,bV,h2,h3,h4,iU,je,kF,i64,Bool.not_false]
    all_goals rfl
   |true =>
    simp only[zX,Nat.reduceShiftRight,Nat.reduceMod,Nat.reduceLT,Nat.reduceMul,Nat.reduceSub,Int.reduceToNat,Int.reduceNeg,Int.reduceLT,Int.reduceLE,Int.reduceEq,Nat.reduceEqDiff,Nat.reduceAdd,Nat.reduceLeDiff,reduceIte,reduceCtorEq,Nat.reduceBEq,aF,bf,Re.ae re,List.map_cons,List.map_nil,iD,bD,bV,h2,h3,h4,iU,je,kF,i64,Bool.not_true]
    refine⟨re.kids.length-(i+1),_,_,by omega,bI.cut (s':=[aF re,bf A2]) 2 (by omega) (by simp [aF,bf,dP,Re.ae re,iD,bD]) (by simp [aF,bf,bV,aQ,Re.ae re,ah]) [2,3,4,43,44,45] (by simp [bB,aL,ah,h2,h3,h4,iU,je,kF,i64,bV]),i+1,rfl,az,?_,?_,?_,?_,?_,?_,?_,by simp [aF,bf,dP,Re.ae re,iD,bD]⟩ <;> (try simp only[zU,Nat.reduceBEq,Nat.reduceShiftRight,Nat.reduceMod,Nat.reduceEqDiff,reduceIte])
    ·exact h2
    ·exact h3
    ·exact h4
    ·exact iU
    ·exact je
    ·rw[br _ (by omega)];rfl
    ·intro x hx
     rcases b6 hk hx with h|rfl
     ·exact bM x h
     ·exact eN
  ·have eQ:i=re.kids.length:=by omega
   subst eQ
   rw[List.take_length]at bM
   rw[kH bM]
   simp only[zX,Nat.reduceShiftRight,Nat.reduceMod,Nat.reduceLT,Nat.reduceMul,Nat.reduceSub,Int.reduceToNat,Int.reduceNeg,Int.reduceLT,Int.reduceLE,Int.reduceEq,Nat.reduceEqDiff,Nat.reduceAdd,Nat.reduceLeDiff,reduceIte,reduceCtorEq,Nat.reduceBEq,aF,bf,Re.ae re,List.map_cons,List.map_nil,iD,bD,bV,h2,h3,h4,iU,je,kF,i64,Int.lt_irrefl]
   all_goals rfl
 case inr.inr.inr.inr.inr.inr.inr.inr.inr.inr.inl =>
  rw[if_neg (by omega),if_neg (by omega),if_neg (by omega),if_neg (by omega),show (look||decide (re.op=7\/re.op=8))=look by rw[decide_eq_false (by omega),Bool.or_false]]
  obtain⟨A2,gr⟩:∃A2,A2=A:=⟨_,rfl⟩
  obtain⟨jg,gJ⟩:∃l,l=look:=⟨_,rfl⟩
  have dP:A2.length=10:=by rw[gr];simp [hA]
  have gF:∀k∈re.kids,k.bC A2 jg=false->(re.kids.all fun k=>k.bC A look)=false:=fun k hk h=>by subst gr;subst gJ;rw[List.all_eq_false];exact⟨k,hk,by simp [h]⟩
  have kH:(∀k∈re.kids,k.bC A2 jg=true)->(re.kids.all fun k=>k.bC A look)=true:=fun h=>by subst gr;subst gJ;rw[List.all_eq_true];exact h
  unfold kV
  refine an Try.func36 rfl Try.ntmps36 Try.results36 rfl 0 62122406972767 (by simp) (by simp) ?_
  simp only[zX,Nat.reduceShiftRight,Nat.reduceMod,Nat.reduceLT,Nat.reduceMul,Nat.reduceSub,Int.reduceToNat,Int.reduceNeg,Int.reduceLT,Int.reduceLE,Int.reduceEq,Nat.reduceEqDiff,Nat.reduceAdd,Nat.reduceLeDiff,reduceIte,reduceCtorEq,Nat.reduceBEq,i64,aj re,iD,bD,bV,o]
  refine ay (fun n e s=>∃i:Nat,n=re.kids.length-i/\i<=re.kids.length/\e 2=bV jg/\e 3=.rf 0 0 0 0/\e 4=.rf 1 0 0 0/\e 43=.d (.sl (re.kids.map Re.cells))/\e 44=i64 re.kids.length/\e 45=i64 i/\(∀x∈re.kids.take i,x.bC A2 jg=true)/\s=[aF re,bf A2])
   ⟨_,_,_,bI.refl,0,rfl,by omega,by first|rfl|(subst gJ;rfl),rfl,rfl,rfl,rfl,rfl,by simp,by first|(simp [aF,bf,iD,bD,Re.ae re,o,dP];done)|(subst gr;simp [aF,bf,bV,bD,iD,Re.ae re,o];done)|(rw[<- gr];simp [aF,bf,bV,bD,iD,Re.ae re,o];done)|(simp [aF,bf,bV,bD,iD,Re.ae re,o,gr];done)|(simp [aF,bf,bV,bD,iD,Re.ae re,gr];done)⟩ ?_
  rintro n e s ⟨i,rfl,hi,h2,h3,h4,iU,je,kF,bM,rfl⟩
  rcases Nat.lt_or_ge i re.kids.length with az|ib
  ·obtain⟨k,hk⟩:∃k,re.kids[i]?=some k:=⟨_,List.getElem?_eq_getElem az⟩
   have hm:=List.mem_of_getElem? hk
   have aK:(i:Int)<(re.kids.length:Int):=by omega
   have hi0:(0:Int)<=(i:Int):=by omega
   have ew:=ih k hm (pj k hm) A2 jg dP
   have ql:List.take 10 (A2.map bV)=A2.map bV:=List.take_of_length_le (by rw[List.length_map];omega)
   unfold kV at ew
   simp only[bV,bD]at ew
   simp only[zX,Nat.reduceShiftRight,Nat.reduceMod,Nat.reduceLT,Nat.reduceMul,Nat.reduceSub,Int.reduceToNat,Int.reduceNeg,Int.reduceLT,Int.reduceLE,Int.reduceEq,Nat.reduceEqDiff,Nat.reduceAdd,Nat.reduceLeDiff,reduceIte,reduceCtorEq,Nat.reduceBEq,aF,bf,Re.ae re,List.map_cons,List.map_nil,iD,bD,bV,h2,h3,h4,iU,je,kF,i64,aK,hi0,az,hk,dP,ql,List.length_map,List.getElem?_map,Option.map_some,Int.toNat_natCast]
   refine al ew (by rw[aj];simp [ah,ah.go,i64,kv]) rfl ?_
   cases eN:k.bC A2 jg with
   |false =>
    rw[gF k hm eN]
    simp only[zX,Nat.reduceShiftRight,Nat.reduceMod,Nat.reduceLT,Nat.reduceMul,Nat.reduceSub,Int.reduceToNat,Int.reduceNeg,Int.reduceLT,Int.reduceLE,Int.reduceEq,Nat.reduceEqDiff,Nat.reduceAdd,Nat.reduceLeDiff,reduceIte,reduceCtorEq,Nat.reduceBEq,aF,bf,Re.ae re,List.map_cons,List.map_nil,iD,bD,bV,h2,h3,h4,iU,je,kF,i64,Bool.not_false]
    all_goals rfl
   |true =>
    simp only[zX,Nat.reduceShiftRight,Nat.reduceMod,Nat.reduceLT,Nat.reduceMul,Nat.reduceSub,Int.reduceToNat,Int.reduceNeg,Int.reduceLT,Int.reduceLE,Int.reduceEq,Nat.reduceEqDiff,Nat.reduceAdd,Nat.reduceLeDiff,reduceIte,reduceCtorEq,Nat.reduceBEq,aF,bf,Re.ae re,List.map_cons,List.map_nil,iD,bD,bV,h2,h3,h4,iU,je,kF,i64,Bool.not_true]
    refine⟨re.kids.length-(i+1),_,_,by omega,bI.cut (s':=[aF re,bf A2]) 2 (by omega) (by simp [aF,bf,dP,Re.ae re,iD,bD]) (by simp [aF,bf,bV,aQ,Re.ae re,ah]) [2,3,4,43,44,45] (by simp [bB,aL,ah,h2,h3,h4,iU,je,kF,i64,bV]),i+1,rfl,az,?_,?_,?_,?_,?_,?_,?_,by simp [aF,bf,dP,Re.ae re,iD,bD]⟩ <;> (try simp only[zU,Nat.reduceBEq,Nat.reduceShiftRight,Nat.reduceMod,Nat.reduceEqDiff,reduceIte])
    ·exact h2
    ·exact h3
    ·exact h4
    ·exact iU
    ·exact je
    ·rw[br _ (by omega)];rfl
    ·intro x hx
     rcases b6 hk hx with h|rfl
     ·exact bM x h
     ·exact eN
  ·have eQ:i=re.kids.length:=by omega
   subst eQ
   rw[List.take_length]at bM
   rw[kH bM]
   simp only[zX,Nat.reduceShiftRight,Nat.reduceMod,Nat.reduceLT,Nat.reduceMul,Nat.reduceSub,Int.reduceToNat,Int.reduceNeg,Int.reduceLT,Int.reduceLE,Int.reduceEq,Nat.reduceEqDiff,Nat.reduceAdd,Nat.reduceLeDiff,reduceIte,reduceCtorEq,Nat.reduceBEq,aF,bf,Re.ae re,List.map_cons,List.map_nil,iD,bD,bV,h2,h3,h4,iU,je,kF,i64,Int.lt_irrefl]
   all_goals rfl
 case inr.inr.inr.inr.inr.inr.inr.inr.inr.inr.inr =>
  rw[if_neg (by omega),if_neg (by omega),if_neg (by omega),if_neg (by omega),show (look||decide (re.op=7\/re.op=8))=look by rw[decide_eq_false (by omega),Bool.or_false]]
  obtain⟨A2,gr⟩:∃A2,A2=A:=⟨_,rfl⟩
  obtain⟨jg,gJ⟩:∃l,l=look:=⟨_,rfl⟩
  have dP:A2.length=10:=by rw[gr];simp [hA]
  have gF:∀k∈re.kids,k.bC A2 jg=false->(re.kids.all fun k=>k.bC A look)=false:=fun k hk h=>by subst gr;subst gJ;rw[List.all_eq_false];exact⟨k,hk,by simp [h]⟩
  have kH:(∀k∈re.kids,k.bC A2 jg=true)->(re.kids.all fun k=>k.bC A look)=true:=fun h=>by subst gr;subst gJ;rw[List.all_eq_true];exact h
  unfold kV
  refine an Try.func36 rfl Try.ntmps36 Try.results36 rfl 0 62122406972767 (by simp) (by simp) ?_
  simp only[zX,Nat.reduceShiftRight,Nat.reduceMod,Nat.reduceLT,Nat.reduceMul,Nat.reduceSub,Int.reduceToNat,Int.reduceNeg,Int.reduceLT,Int.reduceLE,Int.reduceEq,Nat.reduceEqDiff,Nat.reduceAdd,Nat.reduceLeDiff,reduceIte,reduceCtorEq,Nat.reduceBEq,i64,aj re,iD,bD,bV,o]
  refine ay (fun n e s=>∃i:Nat,n=re.kids.length-i/\i<=re.kids.length/\e 2=bV jg/\e 3=.rf 0 0 0 0/\e 4=.rf 1 0 0 0/\e 43=.d (.sl (re.kids.map Re.cells))/\e 44=i64 re.kids.length/\e 45=i64 i/\(∀x∈re.kids.take i,x.bC A2 jg=true)/\s=[aF re,bf A2])
   ⟨_,_,_,bI.refl,0,rfl,by omega,by first|rfl|(subst gJ;rfl),rfl,rfl,rfl,rfl,rfl,by simp,by first|(simp [aF,bf,iD,bD,Re.ae re,o,dP];done)|(subst gr;simp [aF,bf,bV,bD,iD,Re.ae re,o];done)|(rw[<- gr];simp [aF,bf,bV,bD,iD,Re.ae re,o];done)|(simp [aF,bf,bV,bD,iD,Re.ae re,o,gr];done)|(simp [aF,bf,bV,bD,iD,Re.ae re,gr];done)⟩ ?_
  rintro n e s ⟨i,rfl,hi,h2,h3,h4,iU,je,kF,bM,rfl⟩
  rcases Nat.lt_or_ge i re.kids.length with az|ib
  ·obtain⟨k,hk⟩:∃k,re.kids[i]?=some k:=⟨_,List.getElem?_eq_getElem az⟩
   have hm:=List.mem_of_getElem? hk
   have aK:(i:Int)<(re.kids.length:Int):=by omega
   have hi0:(0:Int)<=(i:Int):=by omega
   have ew:=ih k hm (pj k hm) A2 jg dP
   have ql:List.take 10 (A2.map bV)=A2.map bV:=List.take_of_length_le (by rw[List.length_map];omega)
   unfold kV at ew
   simp only[bV,bD]at ew
   simp only[zX,Nat.reduceShiftRight,Nat.reduceMod,Nat.reduceLT,Nat.reduceMul,Nat.reduceSub,Int.reduceToNat,Int.reduceNeg,Int.reduceLT,Int.reduceLE,Int.reduceEq,Nat.reduceEqDiff,Nat.reduceAdd,Nat.reduceLeDiff,reduceIte,reduceCtorEq,Nat.reduceBEq,aF,bf,Re.ae re,List.map_cons,List.map_nil,iD,bD,bV,h2,h3,h4,iU,je,kF,i64,aK,hi0,az,hk,dP,ql,List.length_map,List.getElem?_map,Option.map_some,Int.toNat_natCast]
   refine al ew (by rw[aj];simp [ah,ah.go,i64,kv]) rfl ?_
   cases eN:k.bC A2 jg with
   |false =>
    rw[gF k hm eN]
    simp only[zX,Nat.reduceShiftRight,Nat.reduceMod,Nat.reduceLT,Nat.reduceMul,Nat.reduceSub,Int.reduceToNat,Int.reduceNeg,Int.reduceLT,Int.reduceLE,Int.reduceEq,Nat.reduceEqDiff,Nat.reduceAdd,Nat.reduceLeDiff,reduceIte,reduceCtorEq,Nat.reduceBEq,aF,bf,Re.ae re,List.map_cons,List.map_nil,iD,bD,bV,h2,h3,h4,iU,je,kF,i64,Bool.not_false]
    all_goals rfl
   |true =>
    simp only[zX,Nat.reduceShiftRight,Nat.reduceMod,Nat.reduceLT,Nat.reduceMul,Nat.reduceSub,Int.reduceToNat,Int.reduceNeg,Int.reduceLT,Int.reduceLE,Int.reduceEq,Nat.reduceEqDiff,Nat.reduceAdd,Nat.reduceLeDiff,reduceIte,reduceCtorEq,Nat.reduceBEq,aF,bf,Re.ae re,List.map_cons,List.map_nil,iD,bD,bV,h2,h3,h4,iU,je,kF,i64,Bool.not_true]
    refine⟨re.kids.length-(i+1),_,_,by omega,bI.cut (s':=[aF re,bf A2]) 2 (by omega) (by simp [aF,bf,dP,Re.ae re,iD,bD]) (by simp [aF,bf,bV,aQ,Re.ae re,ah]) [2,3,4,43,44,45] (by simp [bB,aL,ah,h2,h3,h4,iU,je,kF,i64,bV]),i+1,rfl,az,?_,?_,?_,?_,?_,?_,?_,by simp [aF,bf,dP,Re.ae re,iD,bD]⟩ <;> (try simp only[zU,Nat.reduceBEq,Nat.reduceShiftRight,Nat.reduceMod,Nat.reduceEqDiff,reduceIte])
    ·exact h2
    ·exact h3
    ·exact h4
    ·exact iU
    ·exact je
    ·rw[br _ (by omega)];rfl
    ·intro x hx
     rcases b6 hk hx with h|rfl
     ·exact bM x h
     ·exact eN
  ·have eQ:i=re.kids.length:=by omega
   subst eQ
   rw[List.take_length]at bM
   rw[kH bM]
   simp only[zX,Nat.reduceShiftRight,Nat.reduceMod,Nat.reduceLT,Nat.reduceMul,Nat.reduceSub,Int.reduceToNat,Int.reduceNeg,Int.reduceLT,Int.reduceLE,Int.reduceEq,Nat.reduceEqDiff,Nat.reduceAdd,Nat.reduceLeDiff,reduceIte,reduceCtorEq,Nat.reduceBEq,aF,bf,Re.ae re,List.map_cons,List.map_nil,iD,bD,bV,h2,h3,h4,iU,je,kF,i64,Int.lt_irrefl]
   all_goals rfl
end Go.Proofs.Ytfmdmlfhigocaaa
