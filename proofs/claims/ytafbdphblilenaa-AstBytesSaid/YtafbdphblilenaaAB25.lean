/- A part of the proof (F91). -/
import Derived.Test.YtafbdphblilenaaAB24
set_option linter.unusedSimpArgs false
set_option linter.unusedVariables false
set_option maxRecDepth 100000
set_option maxHeartbeats 80000000
set_option linter.unusedSimpArgs false
set_option linter.unusedVariables false
namespace Go.Proofs.Ytafbdphblilenaa
open Go.VL Go.Proofs.Try
def rdUI (bs xs0:List Nat):Nat→Env→List VL.Obj→Prop:=fun n e s=>∃(i acc:Nat) (xs:List Nat),n=10 - i∧i≤9∧acc < 2 ^ (7 * i)∧xs <:+ bs∧combU acc i (ruF (10 - i) (decide (0 < i)) xs)=rU xs0 ∧
 e 0=.rf 0 0 0 0∧e 3=u64 acc∧e 6=i64 i∧s=[rdO bs xs 0]
theorem rdUint_ok (bs xs:List Nat) (w:Int) (hs:xs <:+ bs) (hb:bs.length≤1000000000) (hB:∀b∈bs,b < 256):callWp prog 98 [.rf 0 0 0 0] [rdO bs xs w] fun v s=>v=u64 (rUW xs w).1∧s=[rdO bs (rUW xs w).2.1 (rUW xs w).2.2]:=by
 by_cases hw:w=0
 case neg =>
  have ho:=octet_ok bs xs w hs hb
  have e1:rUW xs w=(0,xs,w):=by unfold rUW; rw[if_pos hw]
  have e2:rO xs w=(0,xs,w):=by unfold rO; rw[if_pos hw]
  rw[e2] at ho
  rw[e1]
  simp only[u8] at ho
  refine fn_ok func98 rfl ntmps98 results98 rfl 1 125 (by simp) (by simp) ?_
  simp only[zX,Nat.reduceShiftRight,Nat.reduceMod,Nat.reduceLT,Nat.reduceMul,Nat.reduceSub,Int.reduceToNat,Int.reduceNeg,Int.reduceLT,Int.reduceLE,Int.reduceEq,Nat.reduceEqDiff,Nat.reduceAdd,Nat.reduceLeDiff,reduceIte,reduceCtorEq,Nat.reduceBEq,i64,u64]
  refine loop_rule (fun n e s=>n=0∧e 0=.rf 0 0 0 0∧e 6=i64 0∧s=[rdO bs xs w]) ⟨_,_,_,Cln.refl,rfl,rfl,rfl,rfl⟩ ?_
  rintro n e s ⟨rfl,h0,h6,rfl⟩
  simp only[zX,Nat.reduceShiftRight,Nat.reduceMod,Nat.reduceLT,Nat.reduceMul,Nat.reduceSub,Int.reduceToNat,Int.reduceNeg,Int.reduceLT,Int.reduceLE,Int.reduceEq,Nat.reduceEqDiff,Nat.reduceAdd,Nat.reduceLeDiff,reduceIte,reduceCtorEq,Nat.reduceBEq,i64,u64,h0,h6]
  refine call_same ho ?_
  simp only[zX,Nat.reduceShiftRight,Nat.reduceMod,Nat.reduceLT,Nat.reduceMul,Nat.reduceSub,Int.reduceToNat,Int.reduceNeg,Int.reduceLT,Int.reduceLE,Int.reduceEq,Nat.reduceEqDiff,Nat.reduceAdd,Nat.reduceLeDiff,reduceIte,reduceCtorEq,Nat.reduceBEq,i64,u64,rdO,h0,h6,hw,ne_eq,not_false_eq_true,decide_true]
  all_goals first | exact⟨rfl,rfl⟩ | exact⟨rfl,trivial⟩ | rfl | trivial | (rw[reV_eq]; rfl)
 subst hw
 have e1:rUW xs 0=rU xs:=by unfold rUW; rw[if_neg (by simp)]
 rw[e1]
 refine fn_ok func98 rfl ntmps98 results98 rfl 1 125 (by simp) (by simp) ?_
 simp only[zX,Nat.reduceShiftRight,Nat.reduceMod,Nat.reduceLT,Nat.reduceMul,Nat.reduceSub,Int.reduceToNat,Int.reduceNeg,Int.reduceLT,Int.reduceLE,Int.reduceEq,Nat.reduceEqDiff,Nat.reduceAdd,Nat.reduceLeDiff,reduceIte,reduceCtorEq,Nat.reduceBEq,i64,u64]
 refine loop_rule (rdUI bs xs) ⟨_,_,_,Cln.refl,0,0,xs,rfl,by omega,by decide,hs,combU_start xs,rfl,rfl,rfl,rfl⟩ ?_
 rintro n e s ⟨i,acc,ys,rfl,hi,ha,hys,hc,h0,h3,h6,rfl⟩
 have ho:=octet_ok bs ys 0 hys hb
 obtain⟨k,hk⟩:∃k,10 - i=k + 1:=⟨9 - i,by omega⟩
 rw[hk] at hc
 have hi10:(i:Int) < 10:=by omega
 cases ys with
 | nil =>
  have e2:rO [] 0=(0,[],3):=rfl
  rw[e2] at ho
  rw[← hc,combU_end]
  simp only[u8] at ho
  simp only[zX,Nat.reduceShiftRight,Nat.reduceMod,Nat.reduceLT,Nat.reduceMul,Nat.reduceSub,Int.reduceToNat,Int.reduceNeg,Int.reduceLT,Int.reduceLE,Int.reduceEq,Nat.reduceEqDiff,Nat.reduceAdd,Nat.reduceLeDiff,reduceIte,reduceCtorEq,Nat.reduceBEq,i64,u64,h0,h3,h6,hi10]
  refine call_same ho ?_
  simp only[zX,Nat.reduceShiftRight,Nat.reduceMod,Nat.reduceLT,Nat.reduceMul,Nat.reduceSub,Int.reduceToNat,Int.reduceNeg,Int.reduceLT,Int.reduceLE,Int.reduceEq,Nat.reduceEqDiff,Nat.reduceAdd,Nat.reduceLeDiff,reduceIte,reduceCtorEq,Nat.reduceBEq,i64,u64,rdO,h0,h3,h6]
  all_goals first | exact⟨rfl,rfl⟩ | exact⟨rfl,trivial⟩ | rfl | trivial | (rw[reV_eq]; rfl)
 | cons b ys =>
  have e2:rO (b::ys) 0=(b,ys,0):=rfl
  rw[e2] at ho
  have hb256:b < 256:=hB b (hys.subset (by simp))
  have hys':ys <:+ bs:=(suf_get hys).2.2
  simp only[u8] at ho
  by_cases hbad:(k=0∧1 < b)∨(decide (0 < i)=true∧b=0)
  ·have hcb:=combU_bad acc i k b (decide (0 < i)) ys hbad
   rw[← hc,hcb]
   simp only[zX,Nat.reduceShiftRight,Nat.reduceMod,Nat.reduceLT,Nat.reduceMul,Nat.reduceSub,Int.reduceToNat,Int.reduceNeg,Int.reduceLT,Int.reduceLE,Int.reduceEq,Nat.reduceEqDiff,Nat.reduceAdd,Nat.reduceLeDiff,reduceIte,reduceCtorEq,Nat.reduceBEq,i64,u64,h0,h3,h6,hi10]
   refine call_same ho ?_
   rcases hbad with ⟨hk0,h1⟩ | ⟨h1,hb0⟩
   ·have h9:((i:Int)=9)=True:=eq_true (by omega)
    have h1':(1:Int) < (b:Int):=by omega
    simp only[zX,Nat.reduceShiftRight,Nat.reduceMod,Nat.reduceLT,Nat.reduceMul,Nat.reduceSub,Int.reduceToNat,Int.reduceNeg,Int.reduceLT,Int.reduceLE,Int.reduceEq,Nat.reduceEqDiff,Nat.reduceAdd,Nat.reduceLeDiff,reduceIte,reduceCtorEq,Nat.reduceBEq,i64,u64,rdO,h0,h3,h6,h9,h1',gt_iff_lt,decide_true]
    all_goals first | exact⟨rfl,rfl⟩ | exact⟨rfl,trivial⟩ | rfl | trivial | (rw[reV_eq]; rfl)
   ·have h1':(0:Int) < (i:Int):=by have:=of_decide_eq_true h1; omega
    have hb1:((b:Int)=0)=True:=eq_true (by omega)
    have hb2:¬(1:Int) < (b:Int):=by omega
    by_cases h9:(i:Int)=9
    ·have h9:((i:Int)=9)=True:=eq_true h9
     simp only[zX,Nat.reduceShiftRight,Nat.reduceMod,Nat.reduceLT,Nat.reduceMul,Nat.reduceSub,Int.reduceToNat,Int.reduceNeg,Int.reduceLT,Int.reduceLE,Int.reduceEq,Nat.reduceEqDiff,Nat.reduceAdd,Nat.reduceLeDiff,reduceIte,reduceCtorEq,Nat.reduceBEq,i64,u64,rdO,h0,h3,h6,h1',h9,hb1,hb2,gt_iff_lt,decide_true]
     all_goals first | exact⟨rfl,rfl⟩ | exact⟨rfl,trivial⟩ | rfl | trivial | (rw[reV_eq]; rfl)
    ·simp only[zX,Nat.reduceShiftRight,Nat.reduceMod,Nat.reduceLT,Nat.reduceMul,Nat.reduceSub,Int.reduceToNat,Int.reduceNeg,Int.reduceLT,Int.reduceLE,Int.reduceEq,Nat.reduceEqDiff,Nat.reduceAdd,Nat.reduceLeDiff,reduceIte,reduceCtorEq,Nat.reduceBEq,i64,u64,rdO,h0,h3,h6,h1',h9,hb1,hb2,gt_iff_lt,decide_true]
     all_goals first | exact⟨rfl,rfl⟩ | exact⟨rfl,trivial⟩ | rfl | trivial | (rw[reV_eq]; rfl)
  have hrl:=round_lt (x:=b % 128) hi ha (by omega) (by
   intro h9
   have:¬(k=0∧1 < b):=fun h=>hbad (.inl h)
   omega)
  have hA:=and127 b hb256
  have hW:IntKind.u64.wrap ((b % 128:Nat):Int)=((b % 128:Nat):Int):=wrapu _ (by omega)
  have hM:IntKind.i64.wrap (7 * (i:Int))=((7 * i:Nat):Int):=by rw[w64 _ (by omega)]; omega
  have hS:=shl7 (b % 128) i hi (by omega)
  have hO:=or_add acc (b % 128) (7 * i) ha hrl.1
  have h7:(0:Int)≤((7 * i:Nat):Int):=by omega
  have n1:¬((i:Int)=9∧1 < (b:Int)):=fun h=>hbad (.inl (by omega))
  have n2:¬(0 < (i:Int)∧(b:Int)=0):=fun h=>hbad (.inr ⟨decide_eq_true (by omega),by omega⟩)
  generalize hacc:acc + b % 128 * 2 ^ (7 * i)=acc' at *
  generalize hxx:b % 128 * 2 ^ (7 * i)=xx at *
  generalize h77:7 * i=ii at *
  simp only[zX,Nat.reduceShiftRight,Nat.reduceMod,Nat.reduceLT,Nat.reduceMul,Nat.reduceSub,Int.reduceToNat,Int.reduceNeg,Int.reduceLT,Int.reduceLE,Int.reduceEq,Nat.reduceEqDiff,Nat.reduceAdd,Nat.reduceLeDiff,reduceIte,reduceCtorEq,Nat.reduceBEq,i64,u64,h0,h3,h6,hi10]
  refine call_same ho ?_
  by_cases hlast:b < 128
  ·have hlast':(b:Int) < 128:=by omega
   have hcl:=combU_last acc i k b (decide (0 < i)) ys hbad hlast
   rw[h77] at hcl
   have hmod:b % 128=b:=by omega
   rw[hmod] at hxx
   rw[hxx] at hcl
   rw[← hc,hcl]
   have hfin:acc + xx=acc':=by rw[← hacc]
   rw[hfin]
   by_cases q1:(i:Int)=9
   ·have q2:¬1 < (b:Int):=fun h=>n1 ⟨q1,h⟩
    have q3:0 < (i:Int):=by omega
    have q4:¬(b:Int)=0:=fun h=>n2 ⟨q3,h⟩
    have q1:((i:Int)=9)=True:=eq_true q1
    simp only[zX,Nat.reduceShiftRight,Nat.reduceMod,Nat.reduceLT,Nat.reduceMul,Nat.reduceSub,Int.reduceToNat,Int.reduceNeg,Int.reduceLT,Int.reduceLE,Int.reduceEq,Nat.reduceEqDiff,Nat.reduceAdd,Nat.reduceLeDiff,reduceIte,reduceCtorEq,Nat.reduceBEq,i64,u64,rdO,h0,h3,h6,q1,q2,q3,q4,gt_iff_lt,hA,hW,hM,hS,hO,h7,hlast',decide_true]
    all_goals first | exact⟨rfl,rfl⟩ | exact⟨rfl,trivial⟩ | rfl | trivial | (rw[reV_eq]; rfl)
   ·by_cases q3:0 < (i:Int)
    ·have q4:¬(b:Int)=0:=fun h=>n2 ⟨q3,h⟩
     simp only[zX,Nat.reduceShiftRight,Nat.reduceMod,Nat.reduceLT,Nat.reduceMul,Nat.reduceSub,Int.reduceToNat,Int.reduceNeg,Int.reduceLT,Int.reduceLE,Int.reduceEq,Nat.reduceEqDiff,Nat.reduceAdd,Nat.reduceLeDiff,reduceIte,reduceCtorEq,Nat.reduceBEq,i64,u64,rdO,h0,h3,h6,q1,q3,q4,gt_iff_lt,hA,hW,hM,hS,hO,h7,hlast',decide_true]
     all_goals first | exact⟨rfl,rfl⟩ | exact⟨rfl,trivial⟩ | rfl | trivial | (rw[reV_eq]; rfl)
    ·simp only[zX,Nat.reduceShiftRight,Nat.reduceMod,Nat.reduceLT,Nat.reduceMul,Nat.reduceSub,Int.reduceToNat,Int.reduceNeg,Int.reduceLT,Int.reduceLE,Int.reduceEq,Nat.reduceEqDiff,Nat.reduceAdd,Nat.reduceLeDiff,reduceIte,reduceCtorEq,Nat.reduceBEq,i64,u64,rdO,h0,h3,h6,q1,q3,gt_iff_lt,hA,hW,hM,hS,hO,h7,hlast',decide_true]
     all_goals first | exact⟨rfl,rfl⟩ | exact⟨rfl,trivial⟩ | rfl | trivial | (rw[reV_eq]; rfl)
  ·have hlast':¬(b:Int) < 128:=by omega
   have hk1:k≠0:=by
    rintro rfl
    exact hbad (.inl ⟨rfl,by omega⟩)
   obtain⟨j,rfl⟩:∃j,k=j + 1:=⟨k - 1,by omega⟩
   have hcm:=combU_more acc i (j + 1) b (decide (0 < i)) ys hbad hlast
   rw[h77,hxx,hacc] at hcm
   have wi:IntKind.i64.wrap ((i:Int) + 1)=((i + 1:Nat):Int):=by rw[w64 _ (by omega)]; omega
   have q1:¬(i:Int)=9:=by omega
   have hend:∀(e1:Env),e1 0=.rf 0 0 0 0→e1 3=u64 acc'→e1 6=i64 ((i + 1:Nat):Int)→∃m e2 s2,m < 10 - i∧Cln 1 e1 [rdO bs ys 0] e2 s2∧rdUI bs xs m e2 s2:=by
    intro e1 k0 k3 k6
    refine⟨10 - (i + 1),e1,_,by omega,Cln.refl,i + 1,acc',ys,rfl,by omega,hrl.2,hys',?_,k0,k3,k6,rfl⟩
    rw[← hc,hcm,show 10 - (i + 1)=j + 1 by omega]
    rw[show decide (0 < i + 1)=true from decide_eq_true (by omega)]
   by_cases q3:0 < (i:Int)
   ·have q4:¬(b:Int)=0:=fun h=>n2 ⟨q3,h⟩
    simp only[zX,Nat.reduceShiftRight,Nat.reduceMod,Nat.reduceLT,Nat.reduceMul,Nat.reduceSub,Int.reduceToNat,Int.reduceNeg,Int.reduceLT,Int.reduceLE,Int.reduceEq,Nat.reduceEqDiff,Nat.reduceAdd,Nat.reduceLeDiff,reduceIte,reduceCtorEq,Nat.reduceBEq,i64,u64,rdO,h0,h3,h6,q1,q3,q4,gt_iff_lt,hA,hW,hM,hS,hO,h7,hlast',decide_true,wi]
    refine hend _ ?_ ?_ ?_ <;> (try simp only[zU,Nat.reduceBEq,Nat.reduceShiftRight,Nat.reduceMod,Nat.reduceEqDiff,reduceIte])
    ·exact h0
    ·rfl
    ·rfl
   ·simp only[zX,Nat.reduceShiftRight,Nat.reduceMod,Nat.reduceLT,Nat.reduceMul,Nat.reduceSub,Int.reduceToNat,Int.reduceNeg,Int.reduceLT,Int.reduceLE,Int.reduceEq,Nat.reduceEqDiff,Nat.reduceAdd,Nat.reduceLeDiff,reduceIte,reduceCtorEq,Nat.reduceBEq,i64,u64,rdO,h0,h3,h6,q1,q3,gt_iff_lt,hA,hW,hM,hS,hO,h7,hlast',decide_true,wi]
    refine hend _ ?_ ?_ ?_ <;> (try simp only[zU,Nat.reduceBEq,Nat.reduceShiftRight,Nat.reduceMod,Nat.reduceEqDiff,reduceIte])
    ·exact h0
    ·rfl
    ·rfl
end Go.Proofs.Ytafbdphblilenaa
