/- A part of the proof (F11 F12). -/
import Derived.Test.YtpppfpaalcbggaaMB9
set_option linter.unusedSimpArgs false
set_option linter.unusedVariables false
set_option maxRecDepth 100000
set_option maxHeartbeats 80000000
set_option linter.unusedSimpArgs false
set_option linter.unusedVariables false
namespace Go.Proofs.Ytpppfpaalcbggaa
open Go.VL Go.Proofs.Try
theorem tree_zero:TreeOK 0:=by
 intro m b hb hm hs
 have hc:cD 0=3:=rfl
 have w1:IntKind.i64.wrap (m.left - 1)=m.left - 1:=w64 _ (by have:=hm.l0; have:=hm.l1; omega)
 have hpos:0≤m.pos∧m.pos≤1000000000:=⟨hm.p0,by have:=hm.p1; omega⟩
 have hk:=pick_range m.l m.pos 20 (by omega)
 refine fn_ok func17 rfl ntmps17 results17 rfl 1 499 (by simp) (by simp) ?_
 simp only[zW,Nat.reduceShiftRight,Nat.reduceMod,Nat.reduceLT,Nat.reduceMul,Nat.reduceSub,Int.reduceToNat,Int.reduceNeg,Int.reduceLT,Int.reduceLE,Int.reduceEq,Nat.reduceEqDiff,Nat.reduceAdd,Nat.reduceLeDiff,reduceIte,reduceCtorEq,Nat.reduceBEq,i64,mkV,mkO,w1]
 refine call_one (next_ok m.less hm.l hpos 20 (by omega)) rfl rfl rfl rfl rfl rfl ?_
 simp only[zW,Nat.reduceShiftRight,Nat.reduceMod,Nat.reduceLT,Nat.reduceMul,Nat.reduceSub,Int.reduceToNat,Int.reduceNeg,Int.reduceLT,Int.reduceLE,Int.reduceEq,Nat.reduceEqDiff,Nat.reduceAdd,Nat.reduceLeDiff,reduceIte,reduceCtorEq,Nat.reduceBEq,i64,mkV,mkO,w1,Mk.next,Mk.less]
 refine draw_c mix [] [] (by rfl) ?_
 by_cases h0:pick m.l m.pos 20=0
 ·simp only[zW,Nat.reduceShiftRight,Nat.reduceMod,Nat.reduceLT,Nat.reduceMul,Nat.reduceSub,Int.reduceToNat,Int.reduceNeg,Int.reduceLT,Int.reduceLE,Int.reduceEq,Nat.reduceEqDiff,Nat.reduceAdd,Nat.reduceLeDiff,reduceIte,reduceCtorEq,Nat.reduceBEq,i64,mkV,mkO,w1,Mk.next,h0,Int.natCast_zero]
  rw[show Mk.tree 0 m=(Re.node 0 [],(m.less.next 20).2) by simp [Mk.tree,Mk.next,Mk.less,h0]]
  all_goals first | exact⟨rfl,rfl⟩ | exact⟨rfl,trivial⟩ | rfl | trivial | (rw[reV_eq]; rfl)
 ·simp only[zW,Nat.reduceShiftRight,Nat.reduceMod,Nat.reduceLT,Nat.reduceMul,Nat.reduceSub,Int.reduceToNat,Int.reduceNeg,Int.reduceLT,Int.reduceLE,Int.reduceEq,Nat.reduceEqDiff,Nat.reduceAdd,Nat.reduceLeDiff,reduceIte,reduceCtorEq,Nat.reduceBEq,i64,mkV,mkO,w1,Mk.next,h0,Int.natCast_zero]
  refine call_one (set_ok (m.less.next 20).2 hm.l (by have:=hm.p1; simp only[Mk.next,Mk.less]; omega)) rfl rfl rfl rfl rfl (renV_reV _ _) ?_
  simp only[zW,Nat.reduceShiftRight,Nat.reduceMod,Nat.reduceLT,Nat.reduceMul,Nat.reduceSub,Int.reduceToNat,Int.reduceNeg,Int.reduceLT,Int.reduceLE,Int.reduceEq,Nat.reduceEqDiff,Nat.reduceAdd,Nat.reduceLeDiff,reduceIte,reduceCtorEq,Nat.reduceBEq,i64,mkV,mkO,w1,Mk.next,h0,Int.natCast_zero]
  rw[show Mk.tree 0 m=(m.less.next 20).2.set by simp [Mk.tree,Mk.next,Mk.less,h0]]
  all_goals first | exact⟨rfl,rfl⟩ | exact⟨rfl,trivial⟩ | rfl | trivial | (rw[reV_eq]; rfl)
theorem tree_node {d:Nat} {m:Mk} (h3:¬m.left - 1 < 3) (hp:¬(m.l.length:Int) < m.pos + 1):Mk.tree (d + 1) m=Mk.node (Mk.tree d) (pick m.l m.pos 20) (m.less.next 20).2:=by
 simp [Mk.tree,Mk.next,Mk.less,h3,hp]
theorem tree_succ (d:Nat) (hd:d≤1000) (hz:zD d≤1000000000) (ht:TreeOK d):TreeOK (d + 1):=by
 intro m b hb hm hs
 have hk:=pick_range m.l m.pos 20 (by omega)
 have hc:=cD_nonneg d
 have hcd:cD (d + 1)=2 + 4 * (cD d + 1):=rfl
 have w1:IntKind.i64.wrap (m.left - 1)=m.left - 1:=w64 _ (by have:=hm.l0; have:=hm.l1; omega)
 have w2:IntKind.i64.wrap ((d + 1:Nat) - 1:Int)=(d:Int):=by rw[w64 _ (by omega)]; omega
 have hd0:¬((d + 1:Nat):Int)=0:=by omega
 have hpos:0≤m.pos∧m.pos≤1000000000:=⟨hm.p0,by have:=hm.p1; omega⟩
 have hy:(m.less.next 20).2.In (b + 2):=by have:=hm.left.next 20; rwa [Int.add_assoc] at this
 have hyp:0≤(m.less.next 20).2.pos∧(m.less.next 20).2.pos≤1000000000:=by have:=hm.p1; simp only[Mk.next,Mk.less]; omega
 have c0:=hm.c0
 have c1:=hm.c1
 refine fn_ok func17 rfl ntmps17 results17 rfl 1 499 (by simp) (by simp) ?_
 simp only[zW,Nat.reduceShiftRight,Nat.reduceMod,Nat.reduceLT,Nat.reduceMul,Nat.reduceSub,Int.reduceToNat,Int.reduceNeg,Int.reduceLT,Int.reduceLE,Int.reduceEq,Nat.reduceEqDiff,Nat.reduceAdd,Nat.reduceLeDiff,reduceIte,reduceCtorEq,Nat.reduceBEq,i64,mkV,mkO,w1]
 refine call_one (next_ok m.less hm.l hpos 20 (by omega)) rfl rfl rfl rfl rfl rfl ?_
 simp only[zW,Nat.reduceShiftRight,Nat.reduceMod,Nat.reduceLT,Nat.reduceMul,Nat.reduceSub,Int.reduceToNat,Int.reduceNeg,Int.reduceLT,Int.reduceLE,Int.reduceEq,Nat.reduceEqDiff,Nat.reduceAdd,Nat.reduceLeDiff,reduceIte,reduceCtorEq,Nat.reduceBEq,i64,mkV,mkO,w1,Mk.next,Mk.less]
 refine draw_c mix [] [] (by rfl) ?_
 have F:=And.intro w1<|And.intro w2<|And.intro hd0<|And.intro @mkV.eq_1<|And.intro @mkO.eq_1<|And.intro @Mk.next.eq_1 @Mk.less.eq_1
 by_cases hl:m.left - 1 < 3∨(m.l.length:Int) < m.pos + 1
 ·have hT:Mk.tree (d + 1) m=if pick m.l m.pos 20=0 then (Re.node 0 [],(m.less.next 20).2) else (m.less.next 20).2.set:=if_pos hl
  rw[hT]
  by_cases h3:m.left - 1 < 3
  ·by_cases h0:pick m.l m.pos 20=0
   ·simp only[zW,Nat.reduceShiftRight,Nat.reduceMod,Nat.reduceLT,Nat.reduceMul,Nat.reduceSub,Int.reduceToNat,Int.reduceNeg,Int.reduceLT,Int.reduceLE,Int.reduceEq,Nat.reduceEqDiff,Nat.reduceAdd,Nat.reduceLeDiff,reduceIte,reduceCtorEq,Nat.reduceBEq,i64,F,h3,h0]
    all_goals first | exact⟨rfl,rfl⟩ | exact⟨rfl,trivial⟩ | rfl | trivial | (rw[reV_eq]; rfl)
   ·simp only[zW,Nat.reduceShiftRight,Nat.reduceMod,Nat.reduceLT,Nat.reduceMul,Nat.reduceSub,Int.reduceToNat,Int.reduceNeg,Int.reduceLT,Int.reduceLE,Int.reduceEq,Nat.reduceEqDiff,Nat.reduceAdd,Nat.reduceLeDiff,reduceIte,reduceCtorEq,Nat.reduceBEq,i64,F,h3,h0]
    refine call_one (set_ok (m.less.next 20).2 hm.l hyp) rfl rfl rfl rfl rfl (renV_reV _ _) ?_
    simp only[zW,Nat.reduceShiftRight,Nat.reduceMod,Nat.reduceLT,Nat.reduceMul,Nat.reduceSub,Int.reduceToNat,Int.reduceNeg,Int.reduceLT,Int.reduceLE,Int.reduceEq,Nat.reduceEqDiff,Nat.reduceAdd,Nat.reduceLeDiff,reduceIte,reduceCtorEq,Nat.reduceBEq,i64,F,h3,h0]
    all_goals first | exact⟨rfl,rfl⟩ | exact⟨rfl,trivial⟩ | rfl | trivial | (rw[reV_eq]; rfl)
  ·have hlp:=hl.resolve_left h3
   by_cases h0:pick m.l m.pos 20=0
   ·simp only[zW,Nat.reduceShiftRight,Nat.reduceMod,Nat.reduceLT,Nat.reduceMul,Nat.reduceSub,Int.reduceToNat,Int.reduceNeg,Int.reduceLT,Int.reduceLE,Int.reduceEq,Nat.reduceEqDiff,Nat.reduceAdd,Nat.reduceLeDiff,reduceIte,reduceCtorEq,Nat.reduceBEq,i64,F,h3,hlp,h0]
    all_goals first | exact⟨rfl,rfl⟩ | exact⟨rfl,trivial⟩ | rfl | trivial | (rw[reV_eq]; rfl)
   ·simp only[zW,Nat.reduceShiftRight,Nat.reduceMod,Nat.reduceLT,Nat.reduceMul,Nat.reduceSub,Int.reduceToNat,Int.reduceNeg,Int.reduceLT,Int.reduceLE,Int.reduceEq,Nat.reduceEqDiff,Nat.reduceAdd,Nat.reduceLeDiff,reduceIte,reduceCtorEq,Nat.reduceBEq,i64,F,h3,hlp,h0]
    refine call_one (set_ok (m.less.next 20).2 hm.l hyp) rfl rfl rfl rfl rfl (renV_reV _ _) ?_
    simp only[zW,Nat.reduceShiftRight,Nat.reduceMod,Nat.reduceLT,Nat.reduceMul,Nat.reduceSub,Int.reduceToNat,Int.reduceNeg,Int.reduceLT,Int.reduceLE,Int.reduceEq,Nat.reduceEqDiff,Nat.reduceAdd,Nat.reduceLeDiff,reduceIte,reduceCtorEq,Nat.reduceBEq,i64,F,h3,hlp,h0]
    all_goals first | exact⟨rfl,rfl⟩ | exact⟨rfl,trivial⟩ | rfl | trivial | (rw[reV_eq]; rfl)
 obtain⟨h3,hlp⟩:=not_or.1 hl
 replace F:=And.intro h3<|And.intro hlp F
 have E:=And.intro @Mk.node.eq_1<|And.intro @Mk.has.eq_1<|And.intro @Mk.next.eq_1 @Mk.less.eq_1
 rw[tree_node h3 hlp]
 by_cases h5:pick m.l m.pos 20 < 5
 ·rw[show Mk.node (Mk.tree d) (pick m.l m.pos 20) (m.less.next 20).2=(Re.node 2 (kidsFrom (Mk.tree d) 4 0 (m.less.next 20).2).1,(kidsFrom (Mk.tree d) 4 0 (m.less.next 20).2).2) by simp [E,h5]]
  simp only[zW,Nat.reduceShiftRight,Nat.reduceMod,Nat.reduceLT,Nat.reduceMul,Nat.reduceSub,Int.reduceToNat,Int.reduceNeg,Int.reduceLT,Int.reduceLE,Int.reduceEq,Nat.reduceEqDiff,Nat.reduceAdd,Nat.reduceLeDiff,reduceIte,reduceCtorEq,Nat.reduceBEq,i64,F,h5]
  refine call_one (kids_ok d hd ht (m.less.next 20).2 (b + 2) (by omega) hy (by omega)) rfl rfl rfl rfl rfl (by first | rfl | exact renV_reV _ _) ?_
  simp only[zW,Nat.reduceShiftRight,Nat.reduceMod,Nat.reduceLT,Nat.reduceMul,Nat.reduceSub,Int.reduceToNat,Int.reduceNeg,Int.reduceLT,Int.reduceLE,Int.reduceEq,Nat.reduceEqDiff,Nat.reduceAdd,Nat.reduceLeDiff,reduceIte,reduceCtorEq,Nat.reduceBEq,i64,F,h5]
  all_goals first | exact⟨rfl,rfl⟩ | exact⟨rfl,trivial⟩ | rfl | trivial | (rw[reV_eq]; rfl)
 by_cases h8:pick m.l m.pos 20 < 8
 ·rw[show Mk.node (Mk.tree d) (pick m.l m.pos 20) (m.less.next 20).2=(Re.node 3 (kidsFrom (Mk.tree d) 4 0 (m.less.next 20).2).1,(kidsFrom (Mk.tree d) 4 0 (m.less.next 20).2).2) by simp [E,h5,h8]]
  simp only[zW,Nat.reduceShiftRight,Nat.reduceMod,Nat.reduceLT,Nat.reduceMul,Nat.reduceSub,Int.reduceToNat,Int.reduceNeg,Int.reduceLT,Int.reduceLE,Int.reduceEq,Nat.reduceEqDiff,Nat.reduceAdd,Nat.reduceLeDiff,reduceIte,reduceCtorEq,Nat.reduceBEq,i64,F,h5,h8]
  refine call_one (kids_ok d hd ht (m.less.next 20).2 (b + 2) (by omega) hy (by omega)) rfl rfl rfl rfl rfl (by first | rfl | exact renV_reV _ _) ?_
  simp only[zW,Nat.reduceShiftRight,Nat.reduceMod,Nat.reduceLT,Nat.reduceMul,Nat.reduceSub,Int.reduceToNat,Int.reduceNeg,Int.reduceLT,Int.reduceLE,Int.reduceEq,Nat.reduceEqDiff,Nat.reduceAdd,Nat.reduceLeDiff,reduceIte,reduceCtorEq,Nat.reduceBEq,i64,F,h5,h8]
  all_goals first | exact⟨rfl,rfl⟩ | exact⟨rfl,trivial⟩ | rfl | trivial | (rw[reV_eq]; rfl)
 by_cases h12:pick m.l m.pos 20 < 12
 ·rw[show Mk.node (Mk.tree d) (pick m.l m.pos 20) (m.less.next 20).2=Mk.rep (Mk.tree d) (m.less.next 20).2 by simp [E,h5,h8,h12]]
  simp only[zW,Nat.reduceShiftRight,Nat.reduceMod,Nat.reduceLT,Nat.reduceMul,Nat.reduceSub,Int.reduceToNat,Int.reduceNeg,Int.reduceLT,Int.reduceLE,Int.reduceEq,Nat.reduceEqDiff,Nat.reduceAdd,Nat.reduceLeDiff,reduceIte,reduceCtorEq,Nat.reduceBEq,i64,F,h5,h8,h12]
  refine call_one (rep_ok d hd ht (m.less.next 20).2 (b + 2) (by omega) hy (by omega) hz) rfl rfl rfl rfl rfl (by first | rfl | exact renV_reV _ _) ?_
  simp only[zW,Nat.reduceShiftRight,Nat.reduceMod,Nat.reduceLT,Nat.reduceMul,Nat.reduceSub,Int.reduceToNat,Int.reduceNeg,Int.reduceLT,Int.reduceLE,Int.reduceEq,Nat.reduceEqDiff,Nat.reduceAdd,Nat.reduceLeDiff,reduceIte,reduceCtorEq,Nat.reduceBEq,i64,F,h5,h8,h12]
  all_goals first | exact⟨rfl,rfl⟩ | exact⟨rfl,trivial⟩ | rfl | trivial | (rw[reV_eq]; rfl)
 have hcase:pick m.l m.pos 20=12∨pick m.l m.pos 20=13∨pick m.l m.pos 20=14∨pick m.l m.pos 20=15∨pick m.l m.pos 20=16∨pick m.l m.pos 20=17∨pick m.l m.pos 20=18∨pick m.l m.pos 20=19:=by omega
 have hp1:=pick_range m.l (m.pos + 1 + 1) 2 (by omega)
 have w3:IntKind.i64.wrap (7 + pick m.l (m.pos + 1 + 1) 2)=7 + pick m.l (m.pos + 1 + 1) 2:=w64 _ (by omega)
 replace F:=And.intro w3 F
 rcases hcase with hq | hq | hq | hq | hq | hq | hq | hq
 by_cases hu:0 < bitV .and .i64 m.uses 64
 ·rw[show Mk.node (Mk.tree d) (pick m.l m.pos 20) (m.less.next 20).2=Mk.capture (Mk.tree d) (m.less.next 20).2 by simp [E,hq,hu]]
  simp only[zW,Nat.reduceShiftRight,Nat.reduceMod,Nat.reduceLT,Nat.reduceMul,Nat.reduceSub,Int.reduceToNat,Int.reduceNeg,Int.reduceLT,Int.reduceLE,Int.reduceEq,Nat.reduceEqDiff,Nat.reduceAdd,Nat.reduceLeDiff,reduceIte,reduceCtorEq,Nat.reduceBEq,i64,F,hq,hu]
  refine call_one (capture_ok d hd ht (m.less.next 20).2 (b + 2) (by omega) hy (by omega)) rfl rfl rfl rfl rfl (by first | rfl | exact renV_reV _ _) ?_
  simp only[zW,Nat.reduceShiftRight,Nat.reduceMod,Nat.reduceLT,Nat.reduceMul,Nat.reduceSub,Int.reduceToNat,Int.reduceNeg,Int.reduceLT,Int.reduceLE,Int.reduceEq,Nat.reduceEqDiff,Nat.reduceAdd,Nat.reduceLeDiff,reduceIte,reduceCtorEq,Nat.reduceBEq,i64,F,hq,hu]
  all_goals first | exact⟨rfl,rfl⟩ | exact⟨rfl,trivial⟩ | rfl | trivial | (rw[reV_eq]; rfl)
 have hcp:=hq
 rotate_left
 by_cases hu:0 < bitV .and .i64 m.uses 64
 ·rw[show Mk.node (Mk.tree d) (pick m.l m.pos 20) (m.less.next 20).2=Mk.capture (Mk.tree d) (m.less.next 20).2 by simp [E,hq,hu]]
  simp only[zW,Nat.reduceShiftRight,Nat.reduceMod,Nat.reduceLT,Nat.reduceMul,Nat.reduceSub,Int.reduceToNat,Int.reduceNeg,Int.reduceLT,Int.reduceLE,Int.reduceEq,Nat.reduceEqDiff,Nat.reduceAdd,Nat.reduceLeDiff,reduceIte,reduceCtorEq,Nat.reduceBEq,i64,F,hq,hu]
  refine call_one (capture_ok d hd ht (m.less.next 20).2 (b + 2) (by omega) hy (by omega)) rfl rfl rfl rfl rfl (by first | rfl | exact renV_reV _ _) ?_
  simp only[zW,Nat.reduceShiftRight,Nat.reduceMod,Nat.reduceLT,Nat.reduceMul,Nat.reduceSub,Int.reduceToNat,Int.reduceNeg,Int.reduceLT,Int.reduceLE,Int.reduceEq,Nat.reduceEqDiff,Nat.reduceAdd,Nat.reduceLeDiff,reduceIte,reduceCtorEq,Nat.reduceBEq,i64,F,hq,hu]
  all_goals first | exact⟨rfl,rfl⟩ | exact⟨rfl,trivial⟩ | rfl | trivial | (rw[reV_eq]; rfl)
 have hcp:=hq
 rotate_left
 by_cases hu:0 < bitV .and .i64 m.uses 16
 ·rw[show Mk.node (Mk.tree d) (pick m.l m.pos 20) (m.less.next 20).2=(.mk 11 [] [] 0 0 0 (((m.less.next 20).2).next 6).1 false,(((m.less.next 20).2).next 6).2) by simp [E,hq,hu]]
  simp only[zW,Nat.reduceShiftRight,Nat.reduceMod,Nat.reduceLT,Nat.reduceMul,Nat.reduceSub,Int.reduceToNat,Int.reduceNeg,Int.reduceLT,Int.reduceLE,Int.reduceEq,Nat.reduceEqDiff,Nat.reduceAdd,Nat.reduceLeDiff,reduceIte,reduceCtorEq,Nat.reduceBEq,i64,F,hq,hu]
  refine call_one (next_ok (m.less.next 20).2 hm.l hyp 6 (by omega)) rfl rfl rfl rfl rfl (by first | rfl | exact renV_reV _ _) ?_
  simp only[zW,Nat.reduceShiftRight,Nat.reduceMod,Nat.reduceLT,Nat.reduceMul,Nat.reduceSub,Int.reduceToNat,Int.reduceNeg,Int.reduceLT,Int.reduceLE,Int.reduceEq,Nat.reduceEqDiff,Nat.reduceAdd,Nat.reduceLeDiff,reduceIte,reduceCtorEq,Nat.reduceBEq,i64,F,hq,hu]
  all_goals first | exact⟨rfl,rfl⟩ | exact⟨rfl,trivial⟩ | rfl | trivial | (rw[reV_eq]; rfl)
 have hcp:=hq
 rotate_left
 by_cases hu:0 < bitV .and .i64 m.uses 4
 ·rw[show Mk.node (Mk.tree d) (pick m.l m.pos 20) (m.less.next 20).2=(.mk (7 + (((m.less.next 20).2.next 3).2.next 2).1) [] [(Mk.tree d (((m.less.next 20).2.next 3).2.next 2).2).1] 0 0 0 0 (decide (((m.less.next 20).2.next 3).1=0)),(Mk.tree d (((m.less.next 20).2.next 3).2.next 2).2).2) by simp [E,hq,hu]]
  simp only[zW,Nat.reduceShiftRight,Nat.reduceMod,Nat.reduceLT,Nat.reduceMul,Nat.reduceSub,Int.reduceToNat,Int.reduceNeg,Int.reduceLT,Int.reduceLE,Int.reduceEq,Nat.reduceEqDiff,Nat.reduceAdd,Nat.reduceLeDiff,reduceIte,reduceCtorEq,Nat.reduceBEq,i64,F,hq,hu]
  refine call_one (next_ok (m.less.next 20).2 hm.l hyp 3 (by omega)) rfl rfl rfl rfl rfl (by first | rfl | exact renV_reV _ _) ?_
  simp only[zW,Nat.reduceShiftRight,Nat.reduceMod,Nat.reduceLT,Nat.reduceMul,Nat.reduceSub,Int.reduceToNat,Int.reduceNeg,Int.reduceLT,Int.reduceLE,Int.reduceEq,Nat.reduceEqDiff,Nat.reduceAdd,Nat.reduceLeDiff,reduceIte,reduceCtorEq,Nat.reduceBEq,i64,F,hq,hu]
  refine call_one (next_ok ((m.less.next 20).2.next 3).2 hm.l (by have:=hm.p1; simp only[Mk.next,Mk.less]; omega) 2 (by omega)) rfl rfl rfl rfl rfl (by first | rfl | exact renV_reV _ _) ?_
  simp only[zW,Nat.reduceShiftRight,Nat.reduceMod,Nat.reduceLT,Nat.reduceMul,Nat.reduceSub,Int.reduceToNat,Int.reduceNeg,Int.reduceLT,Int.reduceLE,Int.reduceEq,Nat.reduceEqDiff,Nat.reduceAdd,Nat.reduceLeDiff,reduceIte,reduceCtorEq,Nat.reduceBEq,i64,F,hq,hu]
  refine call_one (ht (((m.less.next 20).2.next 3).2.next 2).2 (b + 4) (by omega) (((hy.next 3).next 2).mono (by omega)) (by omega)) rfl rfl rfl rfl rfl (by first | rfl | exact renV_reV _ _) ?_
  simp only[zW,Nat.reduceShiftRight,Nat.reduceMod,Nat.reduceLT,Nat.reduceMul,Nat.reduceSub,Int.reduceToNat,Int.reduceNeg,Int.reduceLT,Int.reduceLE,Int.reduceEq,Nat.reduceEqDiff,Nat.reduceAdd,Nat.reduceLeDiff,reduceIte,reduceCtorEq,Nat.reduceBEq,i64,F,hq,hu]
  all_goals first | exact⟨rfl,rfl⟩ | exact⟨rfl,trivial⟩ | rfl | trivial | (rw[reV_eq]; rfl)
 have hcp:=hq
 rotate_left
 by_cases hu:0 < bitV .and .i64 m.uses 8
 ·rw[show Mk.node (Mk.tree d) (pick m.l m.pos 20) (m.less.next 20).2=(Re.node 9 [(Mk.tree d (m.less.next 20).2).1],(Mk.tree d (m.less.next 20).2).2) by simp [E,hq,hu]]
  simp only[zW,Nat.reduceShiftRight,Nat.reduceMod,Nat.reduceLT,Nat.reduceMul,Nat.reduceSub,Int.reduceToNat,Int.reduceNeg,Int.reduceLT,Int.reduceLE,Int.reduceEq,Nat.reduceEqDiff,Nat.reduceAdd,Nat.reduceLeDiff,reduceIte,reduceCtorEq,Nat.reduceBEq,i64,F,hq,hu]
  refine call_one (ht (m.less.next 20).2 (b + 2) (by omega) hy (by omega)) rfl rfl rfl rfl rfl (by first | rfl | exact renV_reV _ _) ?_
  simp only[zW,Nat.reduceShiftRight,Nat.reduceMod,Nat.reduceLT,Nat.reduceMul,Nat.reduceSub,Int.reduceToNat,Int.reduceNeg,Int.reduceLT,Int.reduceLE,Int.reduceEq,Nat.reduceEqDiff,Nat.reduceAdd,Nat.reduceLeDiff,reduceIte,reduceCtorEq,Nat.reduceBEq,i64,F,hq,hu]
  all_goals first | exact⟨rfl,rfl⟩ | exact⟨rfl,trivial⟩ | rfl | trivial | (rw[reV_eq]; rfl)
 have hcp:=hq
 rotate_left
 by_cases hu:0 < bitV .and .i64 m.uses 1
 by_cases hcp:0 < m.caps
 ·have hp2:=pick_range m.l (m.pos + 1) m.caps (by omega)
  have w3:IntKind.i64.wrap (1 + pick m.l (m.pos + 1) m.caps)=1 + pick m.l (m.pos + 1) m.caps:=w64 _ (by omega)
  rw[show Mk.node (Mk.tree d) (pick m.l m.pos 20) (m.less.next 20).2=(.mk 6 [] [] 0 0 0 (1 + ((m.less.next 20).2.next m.caps).1) false,((m.less.next 20).2.next m.caps).2) by simp [E,hq,hu,hcp,w3]]
  simp only[zW,Nat.reduceShiftRight,Nat.reduceMod,Nat.reduceLT,Nat.reduceMul,Nat.reduceSub,Int.reduceToNat,Int.reduceNeg,Int.reduceLT,Int.reduceLE,Int.reduceEq,Nat.reduceEqDiff,Nat.reduceAdd,Nat.reduceLeDiff,reduceIte,reduceCtorEq,Nat.reduceBEq,i64,F,hq,hu,hcp,w3]
  refine call_one (next_ok (m.less.next 20).2 hm.l hyp m.caps (by omega)) rfl rfl rfl rfl rfl (by first | rfl | exact renV_reV _ _) ?_
  simp only[zW,Nat.reduceShiftRight,Nat.reduceMod,Nat.reduceLT,Nat.reduceMul,Nat.reduceSub,Int.reduceToNat,Int.reduceNeg,Int.reduceLT,Int.reduceLE,Int.reduceEq,Nat.reduceEqDiff,Nat.reduceAdd,Nat.reduceLeDiff,reduceIte,reduceCtorEq,Nat.reduceBEq,i64,F,hq,hu,hcp,w3]
  all_goals first | exact⟨rfl,rfl⟩ | exact⟨rfl,trivial⟩ | rfl | trivial | (rw[reV_eq]; rfl)
 rotate_left
 have hcp:=hq
 rotate_left
 by_cases hu:0 < bitV .and .i64 m.uses 2
 by_cases hcp:0 < m.caps
 ·have hp2:=pick_range m.l (m.pos + 1) m.caps (by omega)
  have w3:IntKind.i64.wrap (1 + pick m.l (m.pos + 1) m.caps)=1 + pick m.l (m.pos + 1) m.caps:=w64 _ (by omega)
  obtain⟨g1,g2⟩:=tree_good d ((m.less.next 20).2.next m.caps).2 (b + 3) (by omega) ((hy.next m.caps).mono (by omega))
  rw[show Mk.node (Mk.tree d) (pick m.l m.pos 20) (m.less.next 20).2=(.mk 10 [] [(Mk.tree d ((m.less.next 20).2.next m.caps).2).1,(Mk.tree d (Mk.tree d ((m.less.next 20).2.next m.caps).2).2).1] 0 0 0 (1 + ((m.less.next 20).2.next m.caps).1) false,(Mk.tree d (Mk.tree d ((m.less.next 20).2.next m.caps).2).2).2) by simp [E,hq,hu,hcp,w3]]
  simp only[zW,Nat.reduceShiftRight,Nat.reduceMod,Nat.reduceLT,Nat.reduceMul,Nat.reduceSub,Int.reduceToNat,Int.reduceNeg,Int.reduceLT,Int.reduceLE,Int.reduceEq,Nat.reduceEqDiff,Nat.reduceAdd,Nat.reduceLeDiff,reduceIte,reduceCtorEq,Nat.reduceBEq,i64,F,hq,hu,hcp,w3]
  refine call_one (next_ok (m.less.next 20).2 hm.l hyp m.caps (by omega)) rfl rfl rfl rfl rfl (by first | rfl | exact renV_reV _ _) ?_
  simp only[zW,Nat.reduceShiftRight,Nat.reduceMod,Nat.reduceLT,Nat.reduceMul,Nat.reduceSub,Int.reduceToNat,Int.reduceNeg,Int.reduceLT,Int.reduceLE,Int.reduceEq,Nat.reduceEqDiff,Nat.reduceAdd,Nat.reduceLeDiff,reduceIte,reduceCtorEq,Nat.reduceBEq,i64,F,hq,hu,hcp,w3]
  refine call_one (ht ((m.less.next 20).2.next m.caps).2 (b + 3) (by omega) ((hy.next m.caps).mono (by omega)) (by omega)) rfl rfl rfl rfl rfl (by first | rfl | exact renV_reV _ _) ?_
  simp only[zW,Nat.reduceShiftRight,Nat.reduceMod,Nat.reduceLT,Nat.reduceMul,Nat.reduceSub,Int.reduceToNat,Int.reduceNeg,Int.reduceLT,Int.reduceLE,Int.reduceEq,Nat.reduceEqDiff,Nat.reduceAdd,Nat.reduceLeDiff,reduceIte,reduceCtorEq,Nat.reduceBEq,i64,F,hq,hu,hcp,w3]
  refine draw_c mix [8] [(1,[2],[]),(5,[0],[0])] (by rfl) ?_
  simp only[zW,Nat.reduceShiftRight,Nat.reduceMod,Nat.reduceLT,Nat.reduceMul,Nat.reduceSub,Int.reduceToNat,Int.reduceNeg,Int.reduceLT,Int.reduceLE,Int.reduceEq,Nat.reduceEqDiff,Nat.reduceAdd,Nat.reduceLeDiff,reduceIte,reduceCtorEq,Nat.reduceBEq,i64,F,hq,hu,hcp,w3]
  refine callF_one (ht (Mk.tree d ((m.less.next 20).2.next m.caps).2).2 (b + 3 + cD d) (by omega) g1 (by omega)) rfl rfl rfl rfl rfl (renV_reV _ _) ?_
  simp only[zW,Nat.reduceShiftRight,Nat.reduceMod,Nat.reduceLT,Nat.reduceMul,Nat.reduceSub,Int.reduceToNat,Int.reduceNeg,Int.reduceLT,Int.reduceLE,Int.reduceEq,Nat.reduceEqDiff,Nat.reduceAdd,Nat.reduceLeDiff,reduceIte,reduceCtorEq,Nat.reduceBEq,i64,F,hq,hu,hcp,w3]
  all_goals first | exact⟨rfl,rfl⟩ | exact⟨rfl,trivial⟩ | rfl | trivial | (rw[reV_eq]; rfl)
 rotate_left
 have hcp:=hq
 rotate_left
 have hu:=hq
 have hcp:=hq
 all_goals
  rw[show Mk.node (Mk.tree d) (pick m.l m.pos 20) (m.less.next 20).2=(m.less.next 20).2.set by simp [E,hq,hu,hcp]]
  simp only[zW,Nat.reduceShiftRight,Nat.reduceMod,Nat.reduceLT,Nat.reduceMul,Nat.reduceSub,Int.reduceToNat,Int.reduceNeg,Int.reduceLT,Int.reduceLE,Int.reduceEq,Nat.reduceEqDiff,Nat.reduceAdd,Nat.reduceLeDiff,reduceIte,reduceCtorEq,Nat.reduceBEq,i64,F,hq,hu,hcp]
  refine call_one (set_ok (m.less.next 20).2 hm.l hyp) rfl rfl rfl rfl rfl (renV_reV _ _) ?_
  simp only[zW,Nat.reduceShiftRight,Nat.reduceMod,Nat.reduceLT,Nat.reduceMul,Nat.reduceSub,Int.reduceToNat,Int.reduceNeg,Int.reduceLT,Int.reduceLE,Int.reduceEq,Nat.reduceEqDiff,Nat.reduceAdd,Nat.reduceLeDiff,reduceIte,reduceCtorEq,Nat.reduceBEq,i64,F,hq,hu,hcp]
  all_goals first | exact⟨rfl,rfl⟩ | exact⟨rfl,trivial⟩ | rfl | trivial | (rw[reV_eq]; rfl)
theorem tree_ok:∀d,d≤1000→zD d≤1000000000→TreeOK d
 | 0,_,_=>tree_zero
 | d + 1,hd,hz=>tree_succ d (by omega) (by have:=zD_pos d; simp only[zD] at hz; omega) (tree_ok d (by omega) (by have:=zD_pos d; simp only[zD] at hz; omega))
structure Pat where
 re:Re
 caps:Int
 runes:Bool
def patV (p:Pat):V:=.ag (p.re.cells.map .d++[i64 p.caps,bV p.runes])
def patOf (l:List Int) (uses most:Int):Pat :=
 let x:=Mk.tree 5 ⟨l,0,uses,most,0⟩
 ⟨x.1,x.2.caps,false⟩
theorem renO_mkO (ρ:List Nat) (m:Mk):renO ρ (mkO m)=mkO m:=rfl
theorem take_cells_app (re:Re) (l:List V):(re.cells.map V.d++l).take 8=re.cells.map V.d:=List.take_left' (by simp [Re.cells_len])
theorem drop_cells_app (re:Re) (l:List V) (n:Nat):(re.cells.map V.d++l).drop (n + 8)=l.drop n:=by
 rw[Nat.add_comm,← List.drop_drop,List.drop_left' (by simp [Re.cells_len])]
theorem pattern_ok (l:List Int) (uses most:Int) (hl:∀x∈l,I64 x) (h0:0≤most) (h1:most≤1000000):PureOK prog 6 [.d (intsD l),i64 uses,i64 most] (patV (patOf l uses most)):=by
 refine fn_ok func6 rfl ntmps6 results6 rfl 0 455 (by simp) (by simp) ?_
 simp only[zW,Nat.reduceShiftRight,Nat.reduceMod,Nat.reduceLT,Nat.reduceMul,Nat.reduceSub,Int.reduceToNat,Int.reduceNeg,Int.reduceLT,Int.reduceLE,Int.reduceEq,Nat.reduceEqDiff,Nat.reduceAdd,Nat.reduceLeDiff,reduceIte,reduceCtorEq,Nat.reduceBEq,i64]
 refine call_at 1 (tree_ok 5 (by omega) (by decide) ⟨l,0,uses,most,0⟩ 0 (by omega) ⟨hl,by simp,by simp,by simpa using h0,h1,by simp,by simp⟩ (by decide)) rfl rfl rfl rfl (renV_reV _ _) ?_
 rw[renO_mkO]
 have hR:patOf l uses most=⟨(Mk.tree 5 ⟨l,0,uses,most,0⟩).1,(Mk.tree 5 ⟨l,0,uses,most,0⟩).2.caps,false⟩:=rfl
 rw[hR]
 generalize Mk.tree 5 ⟨l,0,uses,most,0⟩=R
 simp only[zW,Nat.reduceShiftRight,Nat.reduceMod,Nat.reduceLT,Nat.reduceMul,Nat.reduceSub,Int.reduceToNat,Int.reduceNeg,Int.reduceLT,Int.reduceLE,Int.reduceEq,Nat.reduceEqDiff,Nat.reduceAdd,Nat.reduceLeDiff,reduceIte,reduceCtorEq,Nat.reduceBEq,i64]
 refine draw_c mix [6] [] (by rfl) ?_
 simp only[zW,Nat.reduceShiftRight,Nat.reduceMod,Nat.reduceLT,Nat.reduceMul,Nat.reduceSub,Int.reduceToNat,Int.reduceNeg,Int.reduceLT,Int.reduceLE,Int.reduceEq,Nat.reduceEqDiff,Nat.reduceAdd,Nat.reduceLeDiff,reduceIte,reduceCtorEq,Nat.reduceBEq,i64,mkO,take_cells_app,drop_cells_app,List.length_append]
 simp only[zW,Nat.reduceShiftRight,Nat.reduceMod,Nat.reduceLT,Nat.reduceMul,Nat.reduceSub,Int.reduceToNat,Int.reduceNeg,Int.reduceLT,Int.reduceLE,Int.reduceEq,Nat.reduceEqDiff,Nat.reduceAdd,Nat.reduceLeDiff,reduceIte,reduceCtorEq,Nat.reduceBEq,Re.cells_eq,patV,bV,i64]
end Go.Proofs.Ytpppfpaalcbggaa
