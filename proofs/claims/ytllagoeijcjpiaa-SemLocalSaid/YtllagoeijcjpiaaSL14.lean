/- A part of the proof (F11 F12). -/
import Derived.Test.YtllagoeijcjpiaaSL13
set_option linter.unusedSimpArgs false
set_option linter.unusedVariables false
set_option maxRecDepth 100000
set_option maxHeartbeats 80000000
set_option linter.unusedSimpArgs false
set_option linter.unusedVariables false
namespace Go.Proofs.Ytllagoeijcjpiaa
open Go.VL Go.Proofs.Try
theorem tree_zero:TreeOK 0:=by
 intro m b hb hm hs
 have hc:cD 0=3:=rfl
 have w1:IntKind.i64.wrap (m.left - 1)=m.left - 1:=w64 _ (by have:=hm.l0; have:=hm.l1; omega)
 have hpos:0≤m.pos∧m.pos≤1000000000:=⟨hm.p0,by have:=hm.p1; omega⟩
 have hk:=pick_range m.l m.pos 20 (by omega)
 refine fn_ok func34 rfl ntmps34 results34 rfl 1 499 (by simp) (by simp) ?_
 simp only[zW,simprocAttr,i64,mkV,mkO,w1]
 refine call_one (next_ok m.less hm.l hpos 20 (by omega)) rfl rfl rfl rfl rfl rfl ?_
 simp only[zW,simprocAttr,i64,mkV,mkO,w1,Mk.next,Mk.less]
 refine draw_c mix [] [] (by rfl) ?_
 by_cases h0:pick m.l m.pos 20=0
 ·simp only[zW,simprocAttr,i64,mkV,mkO,w1,Mk.next,h0,Int.natCast_zero]
  rw[show Mk.tree 0 m=(Re.node 0 [],(m.less.next 20).2) by simp [Mk.tree,Mk.next,Mk.less,h0]]
  all_goals first | exact⟨rfl,rfl⟩ | exact⟨rfl,trivial⟩ | rfl | trivial | (rw[reV_eq]; rfl)
 ·simp only[zW,simprocAttr,i64,mkV,mkO,w1,Mk.next,h0,Int.natCast_zero]
  refine call_one (set_ok (m.less.next 20).2 hm.l (by have:=hm.p1; simp only[Mk.next,Mk.less]; omega)) rfl rfl rfl rfl rfl (renV_reV _ _) ?_
  simp only[zW,simprocAttr,i64,mkV,mkO,w1,Mk.next,h0,Int.natCast_zero]
  rw[show Mk.tree 0 m=(m.less.next 20).2.set by simp [Mk.tree,Mk.next,Mk.less,h0]]
  all_goals first | exact⟨rfl,rfl⟩ | exact⟨rfl,trivial⟩ | rfl | trivial | (rw[reV_eq]; rfl)
theorem tree_node {d:Nat} {m:Mk} (h3:¬m.left - 1 < 3) (hp:¬(m.l.length:Int) < m.pos + 1):Mk.tree (d + 1) m=Mk.node (Mk.tree d) (pick m.l m.pos 20) (m.less.next 20).2:=by
 simp [Mk.tree,Mk.next,Mk.less,h3,hp]
theorem tree_leaf1 (d:Nat) (hd:d≤1000) (hz:zD d≤1000000000) (ht:TreeOK d) (m:Mk) (b:Int) (hb:0≤b) (hm:m.In b) (hs:b + cD (d + 1)≤1000000000) (h3:m.left - 1 < 3) :
  callWp prog 34 [mkV,i64 (d + 1:Nat)] [mkO m] fun v s=>v=reV (m.tree (d + 1)).1∧s=[mkO (m.tree (d + 1)).2]:=by
 have hc:=cD_nonneg d
 have hcd:cD (d + 1)=2 + 4 * (cD d + 1):=rfl
 have w1:IntKind.i64.wrap (m.left - 1)=m.left - 1:=w64 _ (by have:=hm.l0; have:=hm.l1; omega)
 have w2:IntKind.i64.wrap ((d + 1:Nat) - 1:Int)=(d:Int):=by rw[w64 _ (by omega)]; omega
 have hd0:¬((d + 1:Nat):Int)=0:=by omega
 have hpos:0≤m.pos∧m.pos≤1000000000:=⟨hm.p0,by have:=hm.p1; omega⟩
 have hy:(m.less.next 20).2.In (b + 2):=by have:=hm.left.next 20; rwa [Int.add_assoc] at this
 have hyp:0≤(m.less.next 20).2.pos∧(m.less.next 20).2.pos≤1000000000:=by have:=hm.p1; simp only[Mk.next,Mk.less]; omega
 have c0:=hm.c0
 have c1:=hm.c1
 refine fn_ok func34 rfl ntmps34 results34 rfl 1 499 (by simp) (by simp) ?_
 simp only[zW,simprocAttr,i64,mkV,mkO,w1]
 refine call_one (next_ok m.less hm.l hpos 20 (by omega)) rfl rfl rfl rfl rfl rfl ?_
 simp only[zW,simprocAttr,i64,mkV,mkO,w1,Mk.next,Mk.less]
 refine draw_c mix [] [] (by rfl) ?_
 have hT:Mk.tree (d + 1) m=if pick m.l m.pos 20=0 then (Re.node 0 [],(m.less.next 20).2) else (m.less.next 20).2.set:=if_pos (.inl h3)
 rw[hT]
 by_cases h0:pick m.l m.pos 20=0
 ·simp only[zW,simprocAttr,i64,mkV,mkO,w1,Mk.next,hd0,h3,h0]
  all_goals first | exact⟨rfl,rfl⟩ | exact⟨rfl,trivial⟩ | rfl | trivial | (rw[reV_eq]; rfl)
 ·simp only[zW,simprocAttr,i64,mkV,mkO,w1,Mk.next,hd0,h3,h0]
  refine call_one (set_ok (m.less.next 20).2 hm.l hyp) rfl rfl rfl rfl rfl (renV_reV _ _) ?_
  simp only[zW,simprocAttr,i64,mkV,mkO,w1,Mk.next,hd0,h3,h0]
  all_goals first | exact⟨rfl,rfl⟩ | exact⟨rfl,trivial⟩ | rfl | trivial | (rw[reV_eq]; rfl)
theorem tree_leaf2 (d:Nat) (hd:d≤1000) (hz:zD d≤1000000000) (ht:TreeOK d) (m:Mk) (b:Int) (hb:0≤b) (hm:m.In b) (hs:b + cD (d + 1)≤1000000000) (h3:¬m.left - 1 < 3) (hlp:(m.l.length:Int) < m.pos + 1) :
  callWp prog 34 [mkV,i64 (d + 1:Nat)] [mkO m] fun v s=>v=reV (m.tree (d + 1)).1∧s=[mkO (m.tree (d + 1)).2]:=by
 have hc:=cD_nonneg d
 have hcd:cD (d + 1)=2 + 4 * (cD d + 1):=rfl
 have w1:IntKind.i64.wrap (m.left - 1)=m.left - 1:=w64 _ (by have:=hm.l0; have:=hm.l1; omega)
 have w2:IntKind.i64.wrap ((d + 1:Nat) - 1:Int)=(d:Int):=by rw[w64 _ (by omega)]; omega
 have hd0:¬((d + 1:Nat):Int)=0:=by omega
 have hpos:0≤m.pos∧m.pos≤1000000000:=⟨hm.p0,by have:=hm.p1; omega⟩
 have hy:(m.less.next 20).2.In (b + 2):=by have:=hm.left.next 20; rwa [Int.add_assoc] at this
 have hyp:0≤(m.less.next 20).2.pos∧(m.less.next 20).2.pos≤1000000000:=by have:=hm.p1; simp only[Mk.next,Mk.less]; omega
 have c0:=hm.c0
 have c1:=hm.c1
 refine fn_ok func34 rfl ntmps34 results34 rfl 1 499 (by simp) (by simp) ?_
 simp only[zW,simprocAttr,i64,mkV,mkO,w1]
 refine call_one (next_ok m.less hm.l hpos 20 (by omega)) rfl rfl rfl rfl rfl rfl ?_
 simp only[zW,simprocAttr,i64,mkV,mkO,w1,Mk.next,Mk.less]
 refine draw_c mix [] [] (by rfl) ?_
 have hT:Mk.tree (d + 1) m=if pick m.l m.pos 20=0 then (Re.node 0 [],(m.less.next 20).2) else (m.less.next 20).2.set:=if_pos (.inr hlp)
 rw[hT]
 by_cases h0:pick m.l m.pos 20=0
 ·simp only[zW,simprocAttr,i64,mkV,mkO,w1,Mk.next,hd0,h3,hlp,h0]
  all_goals first | exact⟨rfl,rfl⟩ | exact⟨rfl,trivial⟩ | rfl | trivial | (rw[reV_eq]; rfl)
 ·simp only[zW,simprocAttr,i64,mkV,mkO,w1,Mk.next,hd0,h3,hlp,h0]
  refine call_one (set_ok (m.less.next 20).2 hm.l hyp) rfl rfl rfl rfl rfl (renV_reV _ _) ?_
  simp only[zW,simprocAttr,i64,mkV,mkO,w1,Mk.next,hd0,h3,hlp,h0]
  all_goals first | exact⟨rfl,rfl⟩ | exact⟨rfl,trivial⟩ | rfl | trivial | (rw[reV_eq]; rfl)
theorem tree_cat (d:Nat) (hd:d≤1000) (hz:zD d≤1000000000) (ht:TreeOK d) (m:Mk) (b:Int) (hb:0≤b) (hm:m.In b) (hs:b + cD (d + 1)≤1000000000) (h3:¬m.left - 1 < 3) (hlp:¬(m.l.length:Int) < m.pos + 1) (h5:pick m.l m.pos 20 < 5) :
  callWp prog 34 [mkV,i64 (d + 1:Nat)] [mkO m] fun v s=>v=reV (m.tree (d + 1)).1∧s=[mkO (m.tree (d + 1)).2]:=by
 have hc:=cD_nonneg d
 have hcd:cD (d + 1)=2 + 4 * (cD d + 1):=rfl
 have w1:IntKind.i64.wrap (m.left - 1)=m.left - 1:=w64 _ (by have:=hm.l0; have:=hm.l1; omega)
 have w2:IntKind.i64.wrap ((d + 1:Nat) - 1:Int)=(d:Int):=by rw[w64 _ (by omega)]; omega
 have hd0:¬((d + 1:Nat):Int)=0:=by omega
 have hpos:0≤m.pos∧m.pos≤1000000000:=⟨hm.p0,by have:=hm.p1; omega⟩
 have hy:(m.less.next 20).2.In (b + 2):=by have:=hm.left.next 20; rwa [Int.add_assoc] at this
 have hyp:0≤(m.less.next 20).2.pos∧(m.less.next 20).2.pos≤1000000000:=by have:=hm.p1; simp only[Mk.next,Mk.less]; omega
 have c0:=hm.c0
 have c1:=hm.c1
 refine fn_ok func34 rfl ntmps34 results34 rfl 1 499 (by simp) (by simp) ?_
 simp only[zW,simprocAttr,i64,mkV,mkO,w1]
 refine call_one (next_ok m.less hm.l hpos 20 (by omega)) rfl rfl rfl rfl rfl rfl ?_
 simp only[zW,simprocAttr,i64,mkV,mkO,w1,Mk.next,Mk.less]
 refine draw_c mix [] [] (by rfl) ?_
 rw[tree_node h3 hlp]
 have hn:Mk.node (Mk.tree d) (pick m.l m.pos 20) (m.less.next 20).2=(Re.node 2 (kidsFrom (Mk.tree d) 4 0 (m.less.next 20).2).1,(kidsFrom (Mk.tree d) 4 0 (m.less.next 20).2).2):=by simp [Mk.node,Mk.has,Mk.next,Mk.less,h5]
 rw[hn]
 simp only[zW,simprocAttr,i64,mkV,mkO,w1,w2,Mk.next,Mk.less,hd0,h3,hlp,h5]
 refine call_one (kids_ok d hd ht (m.less.next 20).2 (b + 2) (by omega) hy (by omega)) rfl rfl rfl rfl rfl (by first | rfl | exact renV_reV _ _) ?_
 simp only[zW,simprocAttr,i64,mkV,mkO,w1,w2,Mk.next,Mk.less,hd0,h3,hlp,h5]
 all_goals first | exact⟨rfl,rfl⟩ | exact⟨rfl,trivial⟩ | rfl | trivial | (rw[reV_eq]; rfl)
theorem tree_alt (d:Nat) (hd:d≤1000) (hz:zD d≤1000000000) (ht:TreeOK d) (m:Mk) (b:Int) (hb:0≤b) (hm:m.In b) (hs:b + cD (d + 1)≤1000000000) (h3:¬m.left - 1 < 3) (hlp:¬(m.l.length:Int) < m.pos + 1) (h5:¬pick m.l m.pos 20 < 5) (h8:pick m.l m.pos 20 < 8) :
  callWp prog 34 [mkV,i64 (d + 1:Nat)] [mkO m] fun v s=>v=reV (m.tree (d + 1)).1∧s=[mkO (m.tree (d + 1)).2]:=by
 have hc:=cD_nonneg d
 have hcd:cD (d + 1)=2 + 4 * (cD d + 1):=rfl
 have w1:IntKind.i64.wrap (m.left - 1)=m.left - 1:=w64 _ (by have:=hm.l0; have:=hm.l1; omega)
 have w2:IntKind.i64.wrap ((d + 1:Nat) - 1:Int)=(d:Int):=by rw[w64 _ (by omega)]; omega
 have hd0:¬((d + 1:Nat):Int)=0:=by omega
 have hpos:0≤m.pos∧m.pos≤1000000000:=⟨hm.p0,by have:=hm.p1; omega⟩
 have hy:(m.less.next 20).2.In (b + 2):=by have:=hm.left.next 20; rwa [Int.add_assoc] at this
 have hyp:0≤(m.less.next 20).2.pos∧(m.less.next 20).2.pos≤1000000000:=by have:=hm.p1; simp only[Mk.next,Mk.less]; omega
 have c0:=hm.c0
 have c1:=hm.c1
 refine fn_ok func34 rfl ntmps34 results34 rfl 1 499 (by simp) (by simp) ?_
 simp only[zW,simprocAttr,i64,mkV,mkO,w1]
 refine call_one (next_ok m.less hm.l hpos 20 (by omega)) rfl rfl rfl rfl rfl rfl ?_
 simp only[zW,simprocAttr,i64,mkV,mkO,w1,Mk.next,Mk.less]
 refine draw_c mix [] [] (by rfl) ?_
 rw[tree_node h3 hlp]
 have hn:Mk.node (Mk.tree d) (pick m.l m.pos 20) (m.less.next 20).2=(Re.node 3 (kidsFrom (Mk.tree d) 4 0 (m.less.next 20).2).1,(kidsFrom (Mk.tree d) 4 0 (m.less.next 20).2).2):=by simp [Mk.node,Mk.has,Mk.next,Mk.less,h5,h8]
 rw[hn]
 simp only[zW,simprocAttr,i64,mkV,mkO,w1,w2,Mk.next,Mk.less,hd0,h3,hlp,h5,h8]
 refine call_one (kids_ok d hd ht (m.less.next 20).2 (b + 2) (by omega) hy (by omega)) rfl rfl rfl rfl rfl (by first | rfl | exact renV_reV _ _) ?_
 simp only[zW,simprocAttr,i64,mkV,mkO,w1,w2,Mk.next,Mk.less,hd0,h3,hlp,h5,h8]
 all_goals first | exact⟨rfl,rfl⟩ | exact⟨rfl,trivial⟩ | rfl | trivial | (rw[reV_eq]; rfl)
theorem tree_rep (d:Nat) (hd:d≤1000) (hz:zD d≤1000000000) (ht:TreeOK d) (m:Mk) (b:Int) (hb:0≤b) (hm:m.In b) (hs:b + cD (d + 1)≤1000000000) (h3:¬m.left - 1 < 3) (hlp:¬(m.l.length:Int) < m.pos + 1) (h5:¬pick m.l m.pos 20 < 5) (h8:¬pick m.l m.pos 20 < 8) (h12:pick m.l m.pos 20 < 12) :
  callWp prog 34 [mkV,i64 (d + 1:Nat)] [mkO m] fun v s=>v=reV (m.tree (d + 1)).1∧s=[mkO (m.tree (d + 1)).2]:=by
 have hc:=cD_nonneg d
 have hcd:cD (d + 1)=2 + 4 * (cD d + 1):=rfl
 have w1:IntKind.i64.wrap (m.left - 1)=m.left - 1:=w64 _ (by have:=hm.l0; have:=hm.l1; omega)
 have w2:IntKind.i64.wrap ((d + 1:Nat) - 1:Int)=(d:Int):=by rw[w64 _ (by omega)]; omega
 have hd0:¬((d + 1:Nat):Int)=0:=by omega
 have hpos:0≤m.pos∧m.pos≤1000000000:=⟨hm.p0,by have:=hm.p1; omega⟩
 have hy:(m.less.next 20).2.In (b + 2):=by have:=hm.left.next 20; rwa [Int.add_assoc] at this
 have hyp:0≤(m.less.next 20).2.pos∧(m.less.next 20).2.pos≤1000000000:=by have:=hm.p1; simp only[Mk.next,Mk.less]; omega
 have c0:=hm.c0
 have c1:=hm.c1
 refine fn_ok func34 rfl ntmps34 results34 rfl 1 499 (by simp) (by simp) ?_
 simp only[zW,simprocAttr,i64,mkV,mkO,w1]
 refine call_one (next_ok m.less hm.l hpos 20 (by omega)) rfl rfl rfl rfl rfl rfl ?_
 simp only[zW,simprocAttr,i64,mkV,mkO,w1,Mk.next,Mk.less]
 refine draw_c mix [] [] (by rfl) ?_
 rw[tree_node h3 hlp]
 have hn:Mk.node (Mk.tree d) (pick m.l m.pos 20) (m.less.next 20).2=Mk.rep (Mk.tree d) (m.less.next 20).2:=by simp [Mk.node,Mk.has,Mk.next,Mk.less,h5,h8,h12]
 rw[hn]
 simp only[zW,simprocAttr,i64,mkV,mkO,w1,w2,Mk.next,Mk.less,hd0,h3,hlp,h5,h8,h12]
 refine call_one (rep_ok d hd ht (m.less.next 20).2 (b + 2) (by omega) hy (by omega) hz) rfl rfl rfl rfl rfl (by first | rfl | exact renV_reV _ _) ?_
 simp only[zW,simprocAttr,i64,mkV,mkO,w1,w2,Mk.next,Mk.less,hd0,h3,hlp,h5,h8,h12]
 all_goals first | exact⟨rfl,rfl⟩ | exact⟨rfl,trivial⟩ | rfl | trivial | (rw[reV_eq]; rfl)
theorem tree_q12 (d:Nat) (hd:d≤1000) (hz:zD d≤1000000000) (ht:TreeOK d) (m:Mk) (b:Int) (hb:0≤b) (hm:m.In b) (hs:b + cD (d + 1)≤1000000000) (h3:¬m.left - 1 < 3) (hlp:¬(m.l.length:Int) < m.pos + 1) (hq:pick m.l m.pos 20=12) (hu:0 < bitV .and .i64 m.uses 64) :
  callWp prog 34 [mkV,i64 (d + 1:Nat)] [mkO m] fun v s=>v=reV (m.tree (d + 1)).1∧s=[mkO (m.tree (d + 1)).2]:=by
 have hc:=cD_nonneg d
 have hcd:cD (d + 1)=2 + 4 * (cD d + 1):=rfl
 have w1:IntKind.i64.wrap (m.left - 1)=m.left - 1:=w64 _ (by have:=hm.l0; have:=hm.l1; omega)
 have w2:IntKind.i64.wrap ((d + 1:Nat) - 1:Int)=(d:Int):=by rw[w64 _ (by omega)]; omega
 have hd0:¬((d + 1:Nat):Int)=0:=by omega
 have hpos:0≤m.pos∧m.pos≤1000000000:=⟨hm.p0,by have:=hm.p1; omega⟩
 have hy:(m.less.next 20).2.In (b + 2):=by have:=hm.left.next 20; rwa [Int.add_assoc] at this
 have hyp:0≤(m.less.next 20).2.pos∧(m.less.next 20).2.pos≤1000000000:=by have:=hm.p1; simp only[Mk.next,Mk.less]; omega
 have c0:=hm.c0
 have c1:=hm.c1
 refine fn_ok func34 rfl ntmps34 results34 rfl 1 499 (by simp) (by simp) ?_
 simp only[zW,simprocAttr,i64,mkV,mkO,w1]
 refine call_one (next_ok m.less hm.l hpos 20 (by omega)) rfl rfl rfl rfl rfl rfl ?_
 simp only[zW,simprocAttr,i64,mkV,mkO,w1,Mk.next,Mk.less]
 refine draw_c mix [] [] (by rfl) ?_
 rw[tree_node h3 hlp]
 have hn:Mk.node (Mk.tree d) (pick m.l m.pos 20) (m.less.next 20).2=Mk.capture (Mk.tree d) (m.less.next 20).2:=by simp [Mk.node,Mk.has,Mk.next,Mk.less,hq,hu]
 rw[hn]
 simp only[zW,simprocAttr,i64,mkV,mkO,w1,w2,Mk.next,Mk.less,hd0,h3,hlp,hq,hu]
 refine call_one (capture_ok d hd ht (m.less.next 20).2 (b + 2) (by omega) hy (by omega)) rfl rfl rfl rfl rfl (by first | rfl | exact renV_reV _ _) ?_
 simp only[zW,simprocAttr,i64,mkV,mkO,w1,w2,Mk.next,Mk.less,hd0,h3,hlp,hq,hu]
 all_goals first | exact⟨rfl,rfl⟩ | exact⟨rfl,trivial⟩ | rfl | trivial | (rw[reV_eq]; rfl)
theorem tree_q12n (d:Nat) (hd:d≤1000) (hz:zD d≤1000000000) (ht:TreeOK d) (m:Mk) (b:Int) (hb:0≤b) (hm:m.In b) (hs:b + cD (d + 1)≤1000000000) (h3:¬m.left - 1 < 3) (hlp:¬(m.l.length:Int) < m.pos + 1) (hq:pick m.l m.pos 20=12) (hu:¬0 < bitV .and .i64 m.uses 64) :
  callWp prog 34 [mkV,i64 (d + 1:Nat)] [mkO m] fun v s=>v=reV (m.tree (d + 1)).1∧s=[mkO (m.tree (d + 1)).2]:=by
 have hc:=cD_nonneg d
 have hcd:cD (d + 1)=2 + 4 * (cD d + 1):=rfl
 have w1:IntKind.i64.wrap (m.left - 1)=m.left - 1:=w64 _ (by have:=hm.l0; have:=hm.l1; omega)
 have w2:IntKind.i64.wrap ((d + 1:Nat) - 1:Int)=(d:Int):=by rw[w64 _ (by omega)]; omega
 have hd0:¬((d + 1:Nat):Int)=0:=by omega
 have hpos:0≤m.pos∧m.pos≤1000000000:=⟨hm.p0,by have:=hm.p1; omega⟩
 have hy:(m.less.next 20).2.In (b + 2):=by have:=hm.left.next 20; rwa [Int.add_assoc] at this
 have hyp:0≤(m.less.next 20).2.pos∧(m.less.next 20).2.pos≤1000000000:=by have:=hm.p1; simp only[Mk.next,Mk.less]; omega
 have c0:=hm.c0
 have c1:=hm.c1
 refine fn_ok func34 rfl ntmps34 results34 rfl 1 499 (by simp) (by simp) ?_
 simp only[zW,simprocAttr,i64,mkV,mkO,w1]
 refine call_one (next_ok m.less hm.l hpos 20 (by omega)) rfl rfl rfl rfl rfl rfl ?_
 simp only[zW,simprocAttr,i64,mkV,mkO,w1,Mk.next,Mk.less]
 refine draw_c mix [] [] (by rfl) ?_
 rw[tree_node h3 hlp]
 have hn:Mk.node (Mk.tree d) (pick m.l m.pos 20) (m.less.next 20).2=(m.less.next 20).2.set:=by simp [Mk.node,Mk.has,Mk.next,Mk.less,hq,hu]
 rw[hn]
 simp only[zW,simprocAttr,i64,mkV,mkO,w1,w2,Mk.next,Mk.less,hd0,h3,hlp,hq,hu]
 refine call_one (set_ok (m.less.next 20).2 hm.l hyp) rfl rfl rfl rfl rfl (by first | rfl | exact renV_reV _ _) ?_
 simp only[zW,simprocAttr,i64,mkV,mkO,w1,w2,Mk.next,Mk.less,hd0,h3,hlp,hq,hu]
 all_goals first | exact⟨rfl,rfl⟩ | exact⟨rfl,trivial⟩ | rfl | trivial | (rw[reV_eq]; rfl)
theorem tree_q13 (d:Nat) (hd:d≤1000) (hz:zD d≤1000000000) (ht:TreeOK d) (m:Mk) (b:Int) (hb:0≤b) (hm:m.In b) (hs:b + cD (d + 1)≤1000000000) (h3:¬m.left - 1 < 3) (hlp:¬(m.l.length:Int) < m.pos + 1) (hq:pick m.l m.pos 20=13) (hu:0 < bitV .and .i64 m.uses 64) :
  callWp prog 34 [mkV,i64 (d + 1:Nat)] [mkO m] fun v s=>v=reV (m.tree (d + 1)).1∧s=[mkO (m.tree (d + 1)).2]:=by
 have hc:=cD_nonneg d
 have hcd:cD (d + 1)=2 + 4 * (cD d + 1):=rfl
 have w1:IntKind.i64.wrap (m.left - 1)=m.left - 1:=w64 _ (by have:=hm.l0; have:=hm.l1; omega)
 have w2:IntKind.i64.wrap ((d + 1:Nat) - 1:Int)=(d:Int):=by rw[w64 _ (by omega)]; omega
 have hd0:¬((d + 1:Nat):Int)=0:=by omega
 have hpos:0≤m.pos∧m.pos≤1000000000:=⟨hm.p0,by have:=hm.p1; omega⟩
 have hy:(m.less.next 20).2.In (b + 2):=by have:=hm.left.next 20; rwa [Int.add_assoc] at this
 have hyp:0≤(m.less.next 20).2.pos∧(m.less.next 20).2.pos≤1000000000:=by have:=hm.p1; simp only[Mk.next,Mk.less]; omega
 have c0:=hm.c0
 have c1:=hm.c1
 refine fn_ok func34 rfl ntmps34 results34 rfl 1 499 (by simp) (by simp) ?_
 simp only[zW,simprocAttr,i64,mkV,mkO,w1]
 refine call_one (next_ok m.less hm.l hpos 20 (by omega)) rfl rfl rfl rfl rfl rfl ?_
 simp only[zW,simprocAttr,i64,mkV,mkO,w1,Mk.next,Mk.less]
 refine draw_c mix [] [] (by rfl) ?_
 rw[tree_node h3 hlp]
 have hn:Mk.node (Mk.tree d) (pick m.l m.pos 20) (m.less.next 20).2=Mk.capture (Mk.tree d) (m.less.next 20).2:=by simp [Mk.node,Mk.has,Mk.next,Mk.less,hq,hu]
 rw[hn]
 simp only[zW,simprocAttr,i64,mkV,mkO,w1,w2,Mk.next,Mk.less,hd0,h3,hlp,hq,hu]
 refine call_one (capture_ok d hd ht (m.less.next 20).2 (b + 2) (by omega) hy (by omega)) rfl rfl rfl rfl rfl (by first | rfl | exact renV_reV _ _) ?_
 simp only[zW,simprocAttr,i64,mkV,mkO,w1,w2,Mk.next,Mk.less,hd0,h3,hlp,hq,hu]
 all_goals first | exact⟨rfl,rfl⟩ | exact⟨rfl,trivial⟩ | rfl | trivial | (rw[reV_eq]; rfl)
theorem tree_q13n (d:Nat) (hd:d≤1000) (hz:zD d≤1000000000) (ht:TreeOK d) (m:Mk) (b:Int) (hb:0≤b) (hm:m.In b) (hs:b + cD (d + 1)≤1000000000) (h3:¬m.left - 1 < 3) (hlp:¬(m.l.length:Int) < m.pos + 1) (hq:pick m.l m.pos 20=13) (hu:¬0 < bitV .and .i64 m.uses 64) :
  callWp prog 34 [mkV,i64 (d + 1:Nat)] [mkO m] fun v s=>v=reV (m.tree (d + 1)).1∧s=[mkO (m.tree (d + 1)).2]:=by
 have hc:=cD_nonneg d
 have hcd:cD (d + 1)=2 + 4 * (cD d + 1):=rfl
 have w1:IntKind.i64.wrap (m.left - 1)=m.left - 1:=w64 _ (by have:=hm.l0; have:=hm.l1; omega)
 have w2:IntKind.i64.wrap ((d + 1:Nat) - 1:Int)=(d:Int):=by rw[w64 _ (by omega)]; omega
 have hd0:¬((d + 1:Nat):Int)=0:=by omega
 have hpos:0≤m.pos∧m.pos≤1000000000:=⟨hm.p0,by have:=hm.p1; omega⟩
 have hy:(m.less.next 20).2.In (b + 2):=by have:=hm.left.next 20; rwa [Int.add_assoc] at this
 have hyp:0≤(m.less.next 20).2.pos∧(m.less.next 20).2.pos≤1000000000:=by have:=hm.p1; simp only[Mk.next,Mk.less]; omega
 have c0:=hm.c0
 have c1:=hm.c1
 refine fn_ok func34 rfl ntmps34 results34 rfl 1 499 (by simp) (by simp) ?_
 simp only[zW,simprocAttr,i64,mkV,mkO,w1]
 refine call_one (next_ok m.less hm.l hpos 20 (by omega)) rfl rfl rfl rfl rfl rfl ?_
 simp only[zW,simprocAttr,i64,mkV,mkO,w1,Mk.next,Mk.less]
 refine draw_c mix [] [] (by rfl) ?_
 rw[tree_node h3 hlp]
 have hn:Mk.node (Mk.tree d) (pick m.l m.pos 20) (m.less.next 20).2=(m.less.next 20).2.set:=by simp [Mk.node,Mk.has,Mk.next,Mk.less,hq,hu]
 rw[hn]
 simp only[zW,simprocAttr,i64,mkV,mkO,w1,w2,Mk.next,Mk.less,hd0,h3,hlp,hq,hu]
 refine call_one (set_ok (m.less.next 20).2 hm.l hyp) rfl rfl rfl rfl rfl (by first | rfl | exact renV_reV _ _) ?_
 simp only[zW,simprocAttr,i64,mkV,mkO,w1,w2,Mk.next,Mk.less,hd0,h3,hlp,hq,hu]
 all_goals first | exact⟨rfl,rfl⟩ | exact⟨rfl,trivial⟩ | rfl | trivial | (rw[reV_eq]; rfl)
theorem tree_q14 (d:Nat) (hd:d≤1000) (hz:zD d≤1000000000) (ht:TreeOK d) (m:Mk) (b:Int) (hb:0≤b) (hm:m.In b) (hs:b + cD (d + 1)≤1000000000) (h3:¬m.left - 1 < 3) (hlp:¬(m.l.length:Int) < m.pos + 1) (hq:pick m.l m.pos 20=14) (hu:0 < bitV .and .i64 m.uses 16) :
  callWp prog 34 [mkV,i64 (d + 1:Nat)] [mkO m] fun v s=>v=reV (m.tree (d + 1)).1∧s=[mkO (m.tree (d + 1)).2]:=by
 have hc:=cD_nonneg d
 have hcd:cD (d + 1)=2 + 4 * (cD d + 1):=rfl
 have w1:IntKind.i64.wrap (m.left - 1)=m.left - 1:=w64 _ (by have:=hm.l0; have:=hm.l1; omega)
 have w2:IntKind.i64.wrap ((d + 1:Nat) - 1:Int)=(d:Int):=by rw[w64 _ (by omega)]; omega
 have hd0:¬((d + 1:Nat):Int)=0:=by omega
 have hpos:0≤m.pos∧m.pos≤1000000000:=⟨hm.p0,by have:=hm.p1; omega⟩
 have hy:(m.less.next 20).2.In (b + 2):=by have:=hm.left.next 20; rwa [Int.add_assoc] at this
 have hyp:0≤(m.less.next 20).2.pos∧(m.less.next 20).2.pos≤1000000000:=by have:=hm.p1; simp only[Mk.next,Mk.less]; omega
 have c0:=hm.c0
 have c1:=hm.c1
 refine fn_ok func34 rfl ntmps34 results34 rfl 1 499 (by simp) (by simp) ?_
 simp only[zW,simprocAttr,i64,mkV,mkO,w1]
 refine call_one (next_ok m.less hm.l hpos 20 (by omega)) rfl rfl rfl rfl rfl rfl ?_
 simp only[zW,simprocAttr,i64,mkV,mkO,w1,Mk.next,Mk.less]
 refine draw_c mix [] [] (by rfl) ?_
 rw[tree_node h3 hlp]
 have hn:Mk.node (Mk.tree d) (pick m.l m.pos 20) (m.less.next 20).2=(.mk 11 [] [] 0 0 0 (((m.less.next 20).2).next 6).1 false,(((m.less.next 20).2).next 6).2):=by simp [Mk.node,Mk.has,Mk.next,Mk.less,hq,hu]
 rw[hn]
 simp only[zW,simprocAttr,i64,mkV,mkO,w1,w2,Mk.next,Mk.less,hd0,h3,hlp,hq,hu]
 refine call_one (next_ok (m.less.next 20).2 hm.l hyp 6 (by omega)) rfl rfl rfl rfl rfl (by first | rfl | exact renV_reV _ _) ?_
 simp only[zW,simprocAttr,i64,mkV,mkO,w1,w2,Mk.next,Mk.less,hd0,h3,hlp,hq,hu]
 all_goals first | exact⟨rfl,rfl⟩ | exact⟨rfl,trivial⟩ | rfl | trivial | (rw[reV_eq]; rfl)
theorem tree_q14n (d:Nat) (hd:d≤1000) (hz:zD d≤1000000000) (ht:TreeOK d) (m:Mk) (b:Int) (hb:0≤b) (hm:m.In b) (hs:b + cD (d + 1)≤1000000000) (h3:¬m.left - 1 < 3) (hlp:¬(m.l.length:Int) < m.pos + 1) (hq:pick m.l m.pos 20=14) (hu:¬0 < bitV .and .i64 m.uses 16) :
  callWp prog 34 [mkV,i64 (d + 1:Nat)] [mkO m] fun v s=>v=reV (m.tree (d + 1)).1∧s=[mkO (m.tree (d + 1)).2]:=by
 have hc:=cD_nonneg d
 have hcd:cD (d + 1)=2 + 4 * (cD d + 1):=rfl
 have w1:IntKind.i64.wrap (m.left - 1)=m.left - 1:=w64 _ (by have:=hm.l0; have:=hm.l1; omega)
 have w2:IntKind.i64.wrap ((d + 1:Nat) - 1:Int)=(d:Int):=by rw[w64 _ (by omega)]; omega
 have hd0:¬((d + 1:Nat):Int)=0:=by omega
 have hpos:0≤m.pos∧m.pos≤1000000000:=⟨hm.p0,by have:=hm.p1; omega⟩
 have hy:(m.less.next 20).2.In (b + 2):=by have:=hm.left.next 20; rwa [Int.add_assoc] at this
 have hyp:0≤(m.less.next 20).2.pos∧(m.less.next 20).2.pos≤1000000000:=by have:=hm.p1; simp only[Mk.next,Mk.less]; omega
 have c0:=hm.c0
 have c1:=hm.c1
 refine fn_ok func34 rfl ntmps34 results34 rfl 1 499 (by simp) (by simp) ?_
 simp only[zW,simprocAttr,i64,mkV,mkO,w1]
 refine call_one (next_ok m.less hm.l hpos 20 (by omega)) rfl rfl rfl rfl rfl rfl ?_
 simp only[zW,simprocAttr,i64,mkV,mkO,w1,Mk.next,Mk.less]
 refine draw_c mix [] [] (by rfl) ?_
 rw[tree_node h3 hlp]
 have hn:Mk.node (Mk.tree d) (pick m.l m.pos 20) (m.less.next 20).2=(m.less.next 20).2.set:=by simp [Mk.node,Mk.has,Mk.next,Mk.less,hq,hu]
 rw[hn]
 simp only[zW,simprocAttr,i64,mkV,mkO,w1,w2,Mk.next,Mk.less,hd0,h3,hlp,hq,hu]
 refine call_one (set_ok (m.less.next 20).2 hm.l hyp) rfl rfl rfl rfl rfl (by first | rfl | exact renV_reV _ _) ?_
 simp only[zW,simprocAttr,i64,mkV,mkO,w1,w2,Mk.next,Mk.less,hd0,h3,hlp,hq,hu]
 all_goals first | exact⟨rfl,rfl⟩ | exact⟨rfl,trivial⟩ | rfl | trivial | (rw[reV_eq]; rfl)
theorem tree_q15 (d:Nat) (hd:d≤1000) (hz:zD d≤1000000000) (ht:TreeOK d) (m:Mk) (b:Int) (hb:0≤b) (hm:m.In b) (hs:b + cD (d + 1)≤1000000000) (h3:¬m.left - 1 < 3) (hlp:¬(m.l.length:Int) < m.pos + 1) (hq:pick m.l m.pos 20=15) (hu:0 < bitV .and .i64 m.uses 4) :
  callWp prog 34 [mkV,i64 (d + 1:Nat)] [mkO m] fun v s=>v=reV (m.tree (d + 1)).1∧s=[mkO (m.tree (d + 1)).2]:=by
 have hc:=cD_nonneg d
 have hcd:cD (d + 1)=2 + 4 * (cD d + 1):=rfl
 have w1:IntKind.i64.wrap (m.left - 1)=m.left - 1:=w64 _ (by have:=hm.l0; have:=hm.l1; omega)
 have w2:IntKind.i64.wrap ((d + 1:Nat) - 1:Int)=(d:Int):=by rw[w64 _ (by omega)]; omega
 have hd0:¬((d + 1:Nat):Int)=0:=by omega
 have hpos:0≤m.pos∧m.pos≤1000000000:=⟨hm.p0,by have:=hm.p1; omega⟩
 have hy:(m.less.next 20).2.In (b + 2):=by have:=hm.left.next 20; rwa [Int.add_assoc] at this
 have hyp:0≤(m.less.next 20).2.pos∧(m.less.next 20).2.pos≤1000000000:=by have:=hm.p1; simp only[Mk.next,Mk.less]; omega
 have c0:=hm.c0
 have c1:=hm.c1
 refine fn_ok func34 rfl ntmps34 results34 rfl 1 499 (by simp) (by simp) ?_
 simp only[zW,simprocAttr,i64,mkV,mkO,w1]
 refine call_one (next_ok m.less hm.l hpos 20 (by omega)) rfl rfl rfl rfl rfl rfl ?_
 simp only[zW,simprocAttr,i64,mkV,mkO,w1,Mk.next,Mk.less]
 refine draw_c mix [] [] (by rfl) ?_
 rw[tree_node h3 hlp]
 have hp2:=pick_range m.l (m.pos + 1 + 1) 2 (by omega)
 have w3:IntKind.i64.wrap (7 + pick m.l (m.pos + 1 + 1) 2)=7 + pick m.l (m.pos + 1 + 1) 2:=w64 _ (by omega)
 have hn:Mk.node (Mk.tree d) (pick m.l m.pos 20) (m.less.next 20).2=(.mk (7 + (((m.less.next 20).2.next 3).2.next 2).1) [] [(Mk.tree d (((m.less.next 20).2.next 3).2.next 2).2).1] 0 0 0 0 (decide (((m.less.next 20).2.next 3).1=0)),(Mk.tree d (((m.less.next 20).2.next 3).2.next 2).2).2):=by simp [Mk.node,Mk.has,Mk.next,Mk.less,hq,hu,w3]
 rw[hn]
 simp only[zW,simprocAttr,i64,mkV,mkO,w1,w2,Mk.next,Mk.less,hd0,h3,hlp,hq,hu,w3]
 refine call_one (next_ok (m.less.next 20).2 hm.l hyp 3 (by omega)) rfl rfl rfl rfl rfl (by first | rfl | exact renV_reV _ _) ?_
 simp only[zW,simprocAttr,i64,mkV,mkO,w1,w2,Mk.next,Mk.less,hd0,h3,hlp,hq,hu,w3]
 refine call_one (next_ok ((m.less.next 20).2.next 3).2 hm.l (by have:=hm.p1; simp only[Mk.next,Mk.less]; omega) 2 (by omega)) rfl rfl rfl rfl rfl (by first | rfl | exact renV_reV _ _) ?_
 simp only[zW,simprocAttr,i64,mkV,mkO,w1,w2,Mk.next,Mk.less,hd0,h3,hlp,hq,hu,w3]
 refine call_one (ht (((m.less.next 20).2.next 3).2.next 2).2 (b + 4) (by omega) (((hy.next 3).next 2).mono (by omega)) (by omega)) rfl rfl rfl rfl rfl (by first | rfl | exact renV_reV _ _) ?_
 simp only[zW,simprocAttr,i64,mkV,mkO,w1,w2,Mk.next,Mk.less,hd0,h3,hlp,hq,hu,w3]
 all_goals first | exact⟨rfl,rfl⟩ | exact⟨rfl,trivial⟩ | rfl | trivial | (rw[reV_eq]; rfl)
theorem tree_q15n (d:Nat) (hd:d≤1000) (hz:zD d≤1000000000) (ht:TreeOK d) (m:Mk) (b:Int) (hb:0≤b) (hm:m.In b) (hs:b + cD (d + 1)≤1000000000) (h3:¬m.left - 1 < 3) (hlp:¬(m.l.length:Int) < m.pos + 1) (hq:pick m.l m.pos 20=15) (hu:¬0 < bitV .and .i64 m.uses 4) :
  callWp prog 34 [mkV,i64 (d + 1:Nat)] [mkO m] fun v s=>v=reV (m.tree (d + 1)).1∧s=[mkO (m.tree (d + 1)).2]:=by
 have hc:=cD_nonneg d
 have hcd:cD (d + 1)=2 + 4 * (cD d + 1):=rfl
 have w1:IntKind.i64.wrap (m.left - 1)=m.left - 1:=w64 _ (by have:=hm.l0; have:=hm.l1; omega)
 have w2:IntKind.i64.wrap ((d + 1:Nat) - 1:Int)=(d:Int):=by rw[w64 _ (by omega)]; omega
 have hd0:¬((d + 1:Nat):Int)=0:=by omega
 have hpos:0≤m.pos∧m.pos≤1000000000:=⟨hm.p0,by have:=hm.p1; omega⟩
 have hy:(m.less.next 20).2.In (b + 2):=by have:=hm.left.next 20; rwa [Int.add_assoc] at this
 have hyp:0≤(m.less.next 20).2.pos∧(m.less.next 20).2.pos≤1000000000:=by have:=hm.p1; simp only[Mk.next,Mk.less]; omega
 have c0:=hm.c0
 have c1:=hm.c1
 refine fn_ok func34 rfl ntmps34 results34 rfl 1 499 (by simp) (by simp) ?_
 simp only[zW,simprocAttr,i64,mkV,mkO,w1]
 refine call_one (next_ok m.less hm.l hpos 20 (by omega)) rfl rfl rfl rfl rfl rfl ?_
 simp only[zW,simprocAttr,i64,mkV,mkO,w1,Mk.next,Mk.less]
 refine draw_c mix [] [] (by rfl) ?_
 rw[tree_node h3 hlp]
 have hn:Mk.node (Mk.tree d) (pick m.l m.pos 20) (m.less.next 20).2=(m.less.next 20).2.set:=by simp [Mk.node,Mk.has,Mk.next,Mk.less,hq,hu]
 rw[hn]
 simp only[zW,simprocAttr,i64,mkV,mkO,w1,w2,Mk.next,Mk.less,hd0,h3,hlp,hq,hu]
 refine call_one (set_ok (m.less.next 20).2 hm.l hyp) rfl rfl rfl rfl rfl (by first | rfl | exact renV_reV _ _) ?_
 simp only[zW,simprocAttr,i64,mkV,mkO,w1,w2,Mk.next,Mk.less,hd0,h3,hlp,hq,hu]
 all_goals first | exact⟨rfl,rfl⟩ | exact⟨rfl,trivial⟩ | rfl | trivial | (rw[reV_eq]; rfl)
theorem tree_q16 (d:Nat) (hd:d≤1000) (hz:zD d≤1000000000) (ht:TreeOK d) (m:Mk) (b:Int) (hb:0≤b) (hm:m.In b) (hs:b + cD (d + 1)≤1000000000) (h3:¬m.left - 1 < 3) (hlp:¬(m.l.length:Int) < m.pos + 1) (hq:pick m.l m.pos 20=16) (hu:0 < bitV .and .i64 m.uses 8) :
  callWp prog 34 [mkV,i64 (d + 1:Nat)] [mkO m] fun v s=>v=reV (m.tree (d + 1)).1∧s=[mkO (m.tree (d + 1)).2]:=by
 have hc:=cD_nonneg d
 have hcd:cD (d + 1)=2 + 4 * (cD d + 1):=rfl
 have w1:IntKind.i64.wrap (m.left - 1)=m.left - 1:=w64 _ (by have:=hm.l0; have:=hm.l1; omega)
 have w2:IntKind.i64.wrap ((d + 1:Nat) - 1:Int)=(d:Int):=by rw[w64 _ (by omega)]; omega
 have hd0:¬((d + 1:Nat):Int)=0:=by omega
 have hpos:0≤m.pos∧m.pos≤1000000000:=⟨hm.p0,by have:=hm.p1; omega⟩
 have hy:(m.less.next 20).2.In (b + 2):=by have:=hm.left.next 20; rwa [Int.add_assoc] at this
 have hyp:0≤(m.less.next 20).2.pos∧(m.less.next 20).2.pos≤1000000000:=by have:=hm.p1; simp only[Mk.next,Mk.less]; omega
 have c0:=hm.c0
 have c1:=hm.c1
 refine fn_ok func34 rfl ntmps34 results34 rfl 1 499 (by simp) (by simp) ?_
 simp only[zW,simprocAttr,i64,mkV,mkO,w1]
 refine call_one (next_ok m.less hm.l hpos 20 (by omega)) rfl rfl rfl rfl rfl rfl ?_
 simp only[zW,simprocAttr,i64,mkV,mkO,w1,Mk.next,Mk.less]
 refine draw_c mix [] [] (by rfl) ?_
 rw[tree_node h3 hlp]
 have hn:Mk.node (Mk.tree d) (pick m.l m.pos 20) (m.less.next 20).2=(Re.node 9 [(Mk.tree d (m.less.next 20).2).1],(Mk.tree d (m.less.next 20).2).2):=by simp [Mk.node,Mk.has,Mk.next,Mk.less,hq,hu]
 rw[hn]
 simp only[zW,simprocAttr,i64,mkV,mkO,w1,w2,Mk.next,Mk.less,hd0,h3,hlp,hq,hu]
 refine call_one (ht (m.less.next 20).2 (b + 2) (by omega) hy (by omega)) rfl rfl rfl rfl rfl (by first | rfl | exact renV_reV _ _) ?_
 simp only[zW,simprocAttr,i64,mkV,mkO,w1,w2,Mk.next,Mk.less,hd0,h3,hlp,hq,hu]
 all_goals first | exact⟨rfl,rfl⟩ | exact⟨rfl,trivial⟩ | rfl | trivial | (rw[reV_eq]; rfl)
theorem tree_q16n (d:Nat) (hd:d≤1000) (hz:zD d≤1000000000) (ht:TreeOK d) (m:Mk) (b:Int) (hb:0≤b) (hm:m.In b) (hs:b + cD (d + 1)≤1000000000) (h3:¬m.left - 1 < 3) (hlp:¬(m.l.length:Int) < m.pos + 1) (hq:pick m.l m.pos 20=16) (hu:¬0 < bitV .and .i64 m.uses 8) :
  callWp prog 34 [mkV,i64 (d + 1:Nat)] [mkO m] fun v s=>v=reV (m.tree (d + 1)).1∧s=[mkO (m.tree (d + 1)).2]:=by
 have hc:=cD_nonneg d
 have hcd:cD (d + 1)=2 + 4 * (cD d + 1):=rfl
 have w1:IntKind.i64.wrap (m.left - 1)=m.left - 1:=w64 _ (by have:=hm.l0; have:=hm.l1; omega)
 have w2:IntKind.i64.wrap ((d + 1:Nat) - 1:Int)=(d:Int):=by rw[w64 _ (by omega)]; omega
 have hd0:¬((d + 1:Nat):Int)=0:=by omega
 have hpos:0≤m.pos∧m.pos≤1000000000:=⟨hm.p0,by have:=hm.p1; omega⟩
 have hy:(m.less.next 20).2.In (b + 2):=by have:=hm.left.next 20; rwa [Int.add_assoc] at this
 have hyp:0≤(m.less.next 20).2.pos∧(m.less.next 20).2.pos≤1000000000:=by have:=hm.p1; simp only[Mk.next,Mk.less]; omega
 have c0:=hm.c0
 have c1:=hm.c1
 refine fn_ok func34 rfl ntmps34 results34 rfl 1 499 (by simp) (by simp) ?_
 simp only[zW,simprocAttr,i64,mkV,mkO,w1]
 refine call_one (next_ok m.less hm.l hpos 20 (by omega)) rfl rfl rfl rfl rfl rfl ?_
 simp only[zW,simprocAttr,i64,mkV,mkO,w1,Mk.next,Mk.less]
 refine draw_c mix [] [] (by rfl) ?_
 rw[tree_node h3 hlp]
 have hn:Mk.node (Mk.tree d) (pick m.l m.pos 20) (m.less.next 20).2=(m.less.next 20).2.set:=by simp [Mk.node,Mk.has,Mk.next,Mk.less,hq,hu]
 rw[hn]
 simp only[zW,simprocAttr,i64,mkV,mkO,w1,w2,Mk.next,Mk.less,hd0,h3,hlp,hq,hu]
 refine call_one (set_ok (m.less.next 20).2 hm.l hyp) rfl rfl rfl rfl rfl (by first | rfl | exact renV_reV _ _) ?_
 simp only[zW,simprocAttr,i64,mkV,mkO,w1,w2,Mk.next,Mk.less,hd0,h3,hlp,hq,hu]
 all_goals first | exact⟨rfl,rfl⟩ | exact⟨rfl,trivial⟩ | rfl | trivial | (rw[reV_eq]; rfl)
theorem tree_q17 (d:Nat) (hd:d≤1000) (hz:zD d≤1000000000) (ht:TreeOK d) (m:Mk) (b:Int) (hb:0≤b) (hm:m.In b) (hs:b + cD (d + 1)≤1000000000) (h3:¬m.left - 1 < 3) (hlp:¬(m.l.length:Int) < m.pos + 1) (hq:pick m.l m.pos 20=17) (hu:0 < bitV .and .i64 m.uses 1) (hcp:0 < m.caps) :
  callWp prog 34 [mkV,i64 (d + 1:Nat)] [mkO m] fun v s=>v=reV (m.tree (d + 1)).1∧s=[mkO (m.tree (d + 1)).2]:=by
 have hc:=cD_nonneg d
 have hcd:cD (d + 1)=2 + 4 * (cD d + 1):=rfl
 have w1:IntKind.i64.wrap (m.left - 1)=m.left - 1:=w64 _ (by have:=hm.l0; have:=hm.l1; omega)
 have w2:IntKind.i64.wrap ((d + 1:Nat) - 1:Int)=(d:Int):=by rw[w64 _ (by omega)]; omega
 have hd0:¬((d + 1:Nat):Int)=0:=by omega
 have hpos:0≤m.pos∧m.pos≤1000000000:=⟨hm.p0,by have:=hm.p1; omega⟩
 have hy:(m.less.next 20).2.In (b + 2):=by have:=hm.left.next 20; rwa [Int.add_assoc] at this
 have hyp:0≤(m.less.next 20).2.pos∧(m.less.next 20).2.pos≤1000000000:=by have:=hm.p1; simp only[Mk.next,Mk.less]; omega
 have c0:=hm.c0
 have c1:=hm.c1
 refine fn_ok func34 rfl ntmps34 results34 rfl 1 499 (by simp) (by simp) ?_
 simp only[zW,simprocAttr,i64,mkV,mkO,w1]
 refine call_one (next_ok m.less hm.l hpos 20 (by omega)) rfl rfl rfl rfl rfl rfl ?_
 simp only[zW,simprocAttr,i64,mkV,mkO,w1,Mk.next,Mk.less]
 refine draw_c mix [] [] (by rfl) ?_
 rw[tree_node h3 hlp]
 have hp2:=pick_range m.l (m.pos + 1) m.caps (by omega)
 have w3:IntKind.i64.wrap (1 + pick m.l (m.pos + 1) m.caps)=1 + pick m.l (m.pos + 1) m.caps:=w64 _ (by omega)
 have hn:Mk.node (Mk.tree d) (pick m.l m.pos 20) (m.less.next 20).2=(.mk 6 [] [] 0 0 0 (1 + ((m.less.next 20).2.next m.caps).1) false,((m.less.next 20).2.next m.caps).2):=by simp [Mk.node,Mk.has,Mk.next,Mk.less,hq,hu,hcp,w3]
 rw[hn]
 simp only[zW,simprocAttr,i64,mkV,mkO,w1,w2,Mk.next,Mk.less,hd0,h3,hlp,hq,hu,hcp,w3]
 refine call_one (next_ok (m.less.next 20).2 hm.l hyp m.caps (by omega)) rfl rfl rfl rfl rfl (by first | rfl | exact renV_reV _ _) ?_
 simp only[zW,simprocAttr,i64,mkV,mkO,w1,w2,Mk.next,Mk.less,hd0,h3,hlp,hq,hu,hcp,w3]
 all_goals first | exact⟨rfl,rfl⟩ | exact⟨rfl,trivial⟩ | rfl | trivial | (rw[reV_eq]; rfl)
theorem tree_q17m (d:Nat) (hd:d≤1000) (hz:zD d≤1000000000) (ht:TreeOK d) (m:Mk) (b:Int) (hb:0≤b) (hm:m.In b) (hs:b + cD (d + 1)≤1000000000) (h3:¬m.left - 1 < 3) (hlp:¬(m.l.length:Int) < m.pos + 1) (hq:pick m.l m.pos 20=17) (hu:0 < bitV .and .i64 m.uses 1) (hcp:¬0 < m.caps) :
  callWp prog 34 [mkV,i64 (d + 1:Nat)] [mkO m] fun v s=>v=reV (m.tree (d + 1)).1∧s=[mkO (m.tree (d + 1)).2]:=by
 have hc:=cD_nonneg d
 have hcd:cD (d + 1)=2 + 4 * (cD d + 1):=rfl
 have w1:IntKind.i64.wrap (m.left - 1)=m.left - 1:=w64 _ (by have:=hm.l0; have:=hm.l1; omega)
 have w2:IntKind.i64.wrap ((d + 1:Nat) - 1:Int)=(d:Int):=by rw[w64 _ (by omega)]; omega
 have hd0:¬((d + 1:Nat):Int)=0:=by omega
 have hpos:0≤m.pos∧m.pos≤1000000000:=⟨hm.p0,by have:=hm.p1; omega⟩
 have hy:(m.less.next 20).2.In (b + 2):=by have:=hm.left.next 20; rwa [Int.add_assoc] at this
 have hyp:0≤(m.less.next 20).2.pos∧(m.less.next 20).2.pos≤1000000000:=by have:=hm.p1; simp only[Mk.next,Mk.less]; omega
 have c0:=hm.c0
 have c1:=hm.c1
 refine fn_ok func34 rfl ntmps34 results34 rfl 1 499 (by simp) (by simp) ?_
 simp only[zW,simprocAttr,i64,mkV,mkO,w1]
 refine call_one (next_ok m.less hm.l hpos 20 (by omega)) rfl rfl rfl rfl rfl rfl ?_
 simp only[zW,simprocAttr,i64,mkV,mkO,w1,Mk.next,Mk.less]
 refine draw_c mix [] [] (by rfl) ?_
 rw[tree_node h3 hlp]
 have hn:Mk.node (Mk.tree d) (pick m.l m.pos 20) (m.less.next 20).2=(m.less.next 20).2.set:=by simp [Mk.node,Mk.has,Mk.next,Mk.less,hq,hu,hcp]
 rw[hn]
 simp only[zW,simprocAttr,i64,mkV,mkO,w1,w2,Mk.next,Mk.less,hd0,h3,hlp,hq,hu,hcp]
 refine call_one (set_ok (m.less.next 20).2 hm.l hyp) rfl rfl rfl rfl rfl (by first | rfl | exact renV_reV _ _) ?_
 simp only[zW,simprocAttr,i64,mkV,mkO,w1,w2,Mk.next,Mk.less,hd0,h3,hlp,hq,hu,hcp]
 all_goals first | exact⟨rfl,rfl⟩ | exact⟨rfl,trivial⟩ | rfl | trivial | (rw[reV_eq]; rfl)
theorem tree_q17n (d:Nat) (hd:d≤1000) (hz:zD d≤1000000000) (ht:TreeOK d) (m:Mk) (b:Int) (hb:0≤b) (hm:m.In b) (hs:b + cD (d + 1)≤1000000000) (h3:¬m.left - 1 < 3) (hlp:¬(m.l.length:Int) < m.pos + 1) (hq:pick m.l m.pos 20=17) (hu:¬0 < bitV .and .i64 m.uses 1) :
  callWp prog 34 [mkV,i64 (d + 1:Nat)] [mkO m] fun v s=>v=reV (m.tree (d + 1)).1∧s=[mkO (m.tree (d + 1)).2]:=by
 have hc:=cD_nonneg d
 have hcd:cD (d + 1)=2 + 4 * (cD d + 1):=rfl
 have w1:IntKind.i64.wrap (m.left - 1)=m.left - 1:=w64 _ (by have:=hm.l0; have:=hm.l1; omega)
 have w2:IntKind.i64.wrap ((d + 1:Nat) - 1:Int)=(d:Int):=by rw[w64 _ (by omega)]; omega
 have hd0:¬((d + 1:Nat):Int)=0:=by omega
 have hpos:0≤m.pos∧m.pos≤1000000000:=⟨hm.p0,by have:=hm.p1; omega⟩
 have hy:(m.less.next 20).2.In (b + 2):=by have:=hm.left.next 20; rwa [Int.add_assoc] at this
 have hyp:0≤(m.less.next 20).2.pos∧(m.less.next 20).2.pos≤1000000000:=by have:=hm.p1; simp only[Mk.next,Mk.less]; omega
 have c0:=hm.c0
 have c1:=hm.c1
 refine fn_ok func34 rfl ntmps34 results34 rfl 1 499 (by simp) (by simp) ?_
 simp only[zW,simprocAttr,i64,mkV,mkO,w1]
 refine call_one (next_ok m.less hm.l hpos 20 (by omega)) rfl rfl rfl rfl rfl rfl ?_
 simp only[zW,simprocAttr,i64,mkV,mkO,w1,Mk.next,Mk.less]
 refine draw_c mix [] [] (by rfl) ?_
 rw[tree_node h3 hlp]
 have hn:Mk.node (Mk.tree d) (pick m.l m.pos 20) (m.less.next 20).2=(m.less.next 20).2.set:=by simp [Mk.node,Mk.has,Mk.next,Mk.less,hq,hu]
 rw[hn]
 simp only[zW,simprocAttr,i64,mkV,mkO,w1,w2,Mk.next,Mk.less,hd0,h3,hlp,hq,hu]
 refine call_one (set_ok (m.less.next 20).2 hm.l hyp) rfl rfl rfl rfl rfl (by first | rfl | exact renV_reV _ _) ?_
 simp only[zW,simprocAttr,i64,mkV,mkO,w1,w2,Mk.next,Mk.less,hd0,h3,hlp,hq,hu]
 all_goals first | exact⟨rfl,rfl⟩ | exact⟨rfl,trivial⟩ | rfl | trivial | (rw[reV_eq]; rfl)
theorem tree_q18 (d:Nat) (hd:d≤1000) (hz:zD d≤1000000000) (ht:TreeOK d) (m:Mk) (b:Int) (hb:0≤b) (hm:m.In b) (hs:b + cD (d + 1)≤1000000000) (h3:¬m.left - 1 < 3) (hlp:¬(m.l.length:Int) < m.pos + 1) (hq:pick m.l m.pos 20=18) (hu:0 < bitV .and .i64 m.uses 2) (hcp:0 < m.caps) :
  callWp prog 34 [mkV,i64 (d + 1:Nat)] [mkO m] fun v s=>v=reV (m.tree (d + 1)).1∧s=[mkO (m.tree (d + 1)).2]:=by
 have hc:=cD_nonneg d
 have hcd:cD (d + 1)=2 + 4 * (cD d + 1):=rfl
 have w1:IntKind.i64.wrap (m.left - 1)=m.left - 1:=w64 _ (by have:=hm.l0; have:=hm.l1; omega)
 have w2:IntKind.i64.wrap ((d + 1:Nat) - 1:Int)=(d:Int):=by rw[w64 _ (by omega)]; omega
 have hd0:¬((d + 1:Nat):Int)=0:=by omega
 have hpos:0≤m.pos∧m.pos≤1000000000:=⟨hm.p0,by have:=hm.p1; omega⟩
 have hy:(m.less.next 20).2.In (b + 2):=by have:=hm.left.next 20; rwa [Int.add_assoc] at this
 have hyp:0≤(m.less.next 20).2.pos∧(m.less.next 20).2.pos≤1000000000:=by have:=hm.p1; simp only[Mk.next,Mk.less]; omega
 have c0:=hm.c0
 have c1:=hm.c1
 refine fn_ok func34 rfl ntmps34 results34 rfl 1 499 (by simp) (by simp) ?_
 simp only[zW,simprocAttr,i64,mkV,mkO,w1]
 refine call_one (next_ok m.less hm.l hpos 20 (by omega)) rfl rfl rfl rfl rfl rfl ?_
 simp only[zW,simprocAttr,i64,mkV,mkO,w1,Mk.next,Mk.less]
 refine draw_c mix [] [] (by rfl) ?_
 rw[tree_node h3 hlp]
 have hp2:=pick_range m.l (m.pos + 1) m.caps (by omega)
 have w3:IntKind.i64.wrap (1 + pick m.l (m.pos + 1) m.caps)=1 + pick m.l (m.pos + 1) m.caps:=w64 _ (by omega)
 obtain⟨g1,g2⟩:=tree_good d ((m.less.next 20).2.next m.caps).2 (b + 3) (by omega) ((hy.next m.caps).mono (by omega))
 have hn:Mk.node (Mk.tree d) (pick m.l m.pos 20) (m.less.next 20).2=(.mk 10 [] [(Mk.tree d ((m.less.next 20).2.next m.caps).2).1,(Mk.tree d (Mk.tree d ((m.less.next 20).2.next m.caps).2).2).1] 0 0 0 (1 + ((m.less.next 20).2.next m.caps).1) false,(Mk.tree d (Mk.tree d ((m.less.next 20).2.next m.caps).2).2).2):=by simp [Mk.node,Mk.has,Mk.next,Mk.less,hq,hu,hcp,w3]
 rw[hn]
 simp only[zW,simprocAttr,i64,mkV,mkO,w1,w2,Mk.next,Mk.less,hd0,h3,hlp,hq,hu,hcp,w3]
 refine call_one (next_ok (m.less.next 20).2 hm.l hyp m.caps (by omega)) rfl rfl rfl rfl rfl (by first | rfl | exact renV_reV _ _) ?_
 simp only[zW,simprocAttr,i64,mkV,mkO,w1,w2,Mk.next,Mk.less,hd0,h3,hlp,hq,hu,hcp,w3]
 refine call_one (ht ((m.less.next 20).2.next m.caps).2 (b + 3) (by omega) ((hy.next m.caps).mono (by omega)) (by omega)) rfl rfl rfl rfl rfl (by first | rfl | exact renV_reV _ _) ?_
 simp only[zW,simprocAttr,i64,mkV,mkO,w1,w2,Mk.next,Mk.less,hd0,h3,hlp,hq,hu,hcp,w3]
 refine draw_c mix [8] [(1,[2],[]),(5,[0],[0])] (by rfl) ?_
 simp only[zW,simprocAttr,i64,mkV,mkO,w1,w2,Mk.next,Mk.less,hd0,h3,hlp,hq,hu,hcp,w3]
 refine callF_one (ht (Mk.tree d ((m.less.next 20).2.next m.caps).2).2 (b + 3 + cD d) (by omega) g1 (by omega)) rfl rfl rfl rfl rfl (renV_reV _ _) ?_
 simp only[zW,simprocAttr,i64,mkV,mkO,w1,w2,Mk.next,Mk.less,hd0,h3,hlp,hq,hu,hcp,w3]
 all_goals first | exact⟨rfl,rfl⟩ | exact⟨rfl,trivial⟩ | rfl | trivial | (rw[reV_eq]; rfl)
theorem tree_q18m (d:Nat) (hd:d≤1000) (hz:zD d≤1000000000) (ht:TreeOK d) (m:Mk) (b:Int) (hb:0≤b) (hm:m.In b) (hs:b + cD (d + 1)≤1000000000) (h3:¬m.left - 1 < 3) (hlp:¬(m.l.length:Int) < m.pos + 1) (hq:pick m.l m.pos 20=18) (hu:0 < bitV .and .i64 m.uses 2) (hcp:¬0 < m.caps) :
  callWp prog 34 [mkV,i64 (d + 1:Nat)] [mkO m] fun v s=>v=reV (m.tree (d + 1)).1∧s=[mkO (m.tree (d + 1)).2]:=by
 have hc:=cD_nonneg d
 have hcd:cD (d + 1)=2 + 4 * (cD d + 1):=rfl
 have w1:IntKind.i64.wrap (m.left - 1)=m.left - 1:=w64 _ (by have:=hm.l0; have:=hm.l1; omega)
 have w2:IntKind.i64.wrap ((d + 1:Nat) - 1:Int)=(d:Int):=by rw[w64 _ (by omega)]; omega
 have hd0:¬((d + 1:Nat):Int)=0:=by omega
 have hpos:0≤m.pos∧m.pos≤1000000000:=⟨hm.p0,by have:=hm.p1; omega⟩
 have hy:(m.less.next 20).2.In (b + 2):=by have:=hm.left.next 20; rwa [Int.add_assoc] at this
 have hyp:0≤(m.less.next 20).2.pos∧(m.less.next 20).2.pos≤1000000000:=by have:=hm.p1; simp only[Mk.next,Mk.less]; omega
 have c0:=hm.c0
 have c1:=hm.c1
 refine fn_ok func34 rfl ntmps34 results34 rfl 1 499 (by simp) (by simp) ?_
 simp only[zW,simprocAttr,i64,mkV,mkO,w1]
 refine call_one (next_ok m.less hm.l hpos 20 (by omega)) rfl rfl rfl rfl rfl rfl ?_
 simp only[zW,simprocAttr,i64,mkV,mkO,w1,Mk.next,Mk.less]
 refine draw_c mix [] [] (by rfl) ?_
 rw[tree_node h3 hlp]
 have hn:Mk.node (Mk.tree d) (pick m.l m.pos 20) (m.less.next 20).2=(m.less.next 20).2.set:=by simp [Mk.node,Mk.has,Mk.next,Mk.less,hq,hu,hcp]
 rw[hn]
 simp only[zW,simprocAttr,i64,mkV,mkO,w1,w2,Mk.next,Mk.less,hd0,h3,hlp,hq,hu,hcp]
 refine call_one (set_ok (m.less.next 20).2 hm.l hyp) rfl rfl rfl rfl rfl (by first | rfl | exact renV_reV _ _) ?_
 simp only[zW,simprocAttr,i64,mkV,mkO,w1,w2,Mk.next,Mk.less,hd0,h3,hlp,hq,hu,hcp]
 all_goals first | exact⟨rfl,rfl⟩ | exact⟨rfl,trivial⟩ | rfl | trivial | (rw[reV_eq]; rfl)
theorem tree_q18n (d:Nat) (hd:d≤1000) (hz:zD d≤1000000000) (ht:TreeOK d) (m:Mk) (b:Int) (hb:0≤b) (hm:m.In b) (hs:b + cD (d + 1)≤1000000000) (h3:¬m.left - 1 < 3) (hlp:¬(m.l.length:Int) < m.pos + 1) (hq:pick m.l m.pos 20=18) (hu:¬0 < bitV .and .i64 m.uses 2) :
  callWp prog 34 [mkV,i64 (d + 1:Nat)] [mkO m] fun v s=>v=reV (m.tree (d + 1)).1∧s=[mkO (m.tree (d + 1)).2]:=by
 have hc:=cD_nonneg d
 have hcd:cD (d + 1)=2 + 4 * (cD d + 1):=rfl
 have w1:IntKind.i64.wrap (m.left - 1)=m.left - 1:=w64 _ (by have:=hm.l0; have:=hm.l1; omega)
 have w2:IntKind.i64.wrap ((d + 1:Nat) - 1:Int)=(d:Int):=by rw[w64 _ (by omega)]; omega
 have hd0:¬((d + 1:Nat):Int)=0:=by omega
 have hpos:0≤m.pos∧m.pos≤1000000000:=⟨hm.p0,by have:=hm.p1; omega⟩
 have hy:(m.less.next 20).2.In (b + 2):=by have:=hm.left.next 20; rwa [Int.add_assoc] at this
 have hyp:0≤(m.less.next 20).2.pos∧(m.less.next 20).2.pos≤1000000000:=by have:=hm.p1; simp only[Mk.next,Mk.less]; omega
 have c0:=hm.c0
 have c1:=hm.c1
 refine fn_ok func34 rfl ntmps34 results34 rfl 1 499 (by simp) (by simp) ?_
 simp only[zW,simprocAttr,i64,mkV,mkO,w1]
 refine call_one (next_ok m.less hm.l hpos 20 (by omega)) rfl rfl rfl rfl rfl rfl ?_
 simp only[zW,simprocAttr,i64,mkV,mkO,w1,Mk.next,Mk.less]
 refine draw_c mix [] [] (by rfl) ?_
 rw[tree_node h3 hlp]
 have hn:Mk.node (Mk.tree d) (pick m.l m.pos 20) (m.less.next 20).2=(m.less.next 20).2.set:=by simp [Mk.node,Mk.has,Mk.next,Mk.less,hq,hu]
 rw[hn]
 simp only[zW,simprocAttr,i64,mkV,mkO,w1,w2,Mk.next,Mk.less,hd0,h3,hlp,hq,hu]
 refine call_one (set_ok (m.less.next 20).2 hm.l hyp) rfl rfl rfl rfl rfl (by first | rfl | exact renV_reV _ _) ?_
 simp only[zW,simprocAttr,i64,mkV,mkO,w1,w2,Mk.next,Mk.less,hd0,h3,hlp,hq,hu]
 all_goals first | exact⟨rfl,rfl⟩ | exact⟨rfl,trivial⟩ | rfl | trivial | (rw[reV_eq]; rfl)
theorem tree_q19 (d:Nat) (hd:d≤1000) (hz:zD d≤1000000000) (ht:TreeOK d) (m:Mk) (b:Int) (hb:0≤b) (hm:m.In b) (hs:b + cD (d + 1)≤1000000000) (h3:¬m.left - 1 < 3) (hlp:¬(m.l.length:Int) < m.pos + 1) (hq:pick m.l m.pos 20=19) :
  callWp prog 34 [mkV,i64 (d + 1:Nat)] [mkO m] fun v s=>v=reV (m.tree (d + 1)).1∧s=[mkO (m.tree (d + 1)).2]:=by
 have hc:=cD_nonneg d
 have hcd:cD (d + 1)=2 + 4 * (cD d + 1):=rfl
 have w1:IntKind.i64.wrap (m.left - 1)=m.left - 1:=w64 _ (by have:=hm.l0; have:=hm.l1; omega)
 have w2:IntKind.i64.wrap ((d + 1:Nat) - 1:Int)=(d:Int):=by rw[w64 _ (by omega)]; omega
 have hd0:¬((d + 1:Nat):Int)=0:=by omega
 have hpos:0≤m.pos∧m.pos≤1000000000:=⟨hm.p0,by have:=hm.p1; omega⟩
 have hy:(m.less.next 20).2.In (b + 2):=by have:=hm.left.next 20; rwa [Int.add_assoc] at this
 have hyp:0≤(m.less.next 20).2.pos∧(m.less.next 20).2.pos≤1000000000:=by have:=hm.p1; simp only[Mk.next,Mk.less]; omega
 have c0:=hm.c0
 have c1:=hm.c1
 refine fn_ok func34 rfl ntmps34 results34 rfl 1 499 (by simp) (by simp) ?_
 simp only[zW,simprocAttr,i64,mkV,mkO,w1]
 refine call_one (next_ok m.less hm.l hpos 20 (by omega)) rfl rfl rfl rfl rfl rfl ?_
 simp only[zW,simprocAttr,i64,mkV,mkO,w1,Mk.next,Mk.less]
 refine draw_c mix [] [] (by rfl) ?_
 rw[tree_node h3 hlp]
 have hn:Mk.node (Mk.tree d) (pick m.l m.pos 20) (m.less.next 20).2=(m.less.next 20).2.set:=by simp [Mk.node,Mk.has,Mk.next,Mk.less,hq]
 rw[hn]
 simp only[zW,simprocAttr,i64,mkV,mkO,w1,w2,Mk.next,Mk.less,hd0,h3,hlp,hq]
 refine call_one (set_ok (m.less.next 20).2 hm.l hyp) rfl rfl rfl rfl rfl (by first | rfl | exact renV_reV _ _) ?_
 simp only[zW,simprocAttr,i64,mkV,mkO,w1,w2,Mk.next,Mk.less,hd0,h3,hlp,hq]
 all_goals first | exact⟨rfl,rfl⟩ | exact⟨rfl,trivial⟩ | rfl | trivial | (rw[reV_eq]; rfl)
theorem tree_succ (d:Nat) (hd:d≤1000) (hz:zD d≤1000000000) (ht:TreeOK d):TreeOK (d + 1):=by
 intro m b hb hm hs
 have hk:=pick_range m.l m.pos 20 (by omega)
 by_cases h3:m.left - 1 < 3
 ·exact tree_leaf1 d hd hz ht m b hb hm hs h3
 by_cases hlp:(m.l.length:Int) < m.pos + 1
 ·exact tree_leaf2 d hd hz ht m b hb hm hs h3 hlp
 by_cases h5:pick m.l m.pos 20 < 5
 ·exact tree_cat d hd hz ht m b hb hm hs h3 hlp h5
 by_cases h8:pick m.l m.pos 20 < 8
 ·exact tree_alt d hd hz ht m b hb hm hs h3 hlp h5 h8
 by_cases h12:pick m.l m.pos 20 < 12
 ·exact tree_rep d hd hz ht m b hb hm hs h3 hlp h5 h8 h12
 have hcase:pick m.l m.pos 20=12∨pick m.l m.pos 20=13∨pick m.l m.pos 20=14∨pick m.l m.pos 20=15∨pick m.l m.pos 20=16∨pick m.l m.pos 20=17∨pick m.l m.pos 20=18∨pick m.l m.pos 20=19:=by omega
 rcases hcase with hq | hq | hq | hq | hq | hq | hq | hq
 ·by_cases hu:0 < bitV .and .i64 m.uses 64
  ·exact tree_q12 d hd hz ht m b hb hm hs h3 hlp hq hu
  ·exact tree_q12n d hd hz ht m b hb hm hs h3 hlp hq hu
 ·by_cases hu:0 < bitV .and .i64 m.uses 64
  ·exact tree_q13 d hd hz ht m b hb hm hs h3 hlp hq hu
  ·exact tree_q13n d hd hz ht m b hb hm hs h3 hlp hq hu
 ·by_cases hu:0 < bitV .and .i64 m.uses 16
  ·exact tree_q14 d hd hz ht m b hb hm hs h3 hlp hq hu
  ·exact tree_q14n d hd hz ht m b hb hm hs h3 hlp hq hu
 ·by_cases hu:0 < bitV .and .i64 m.uses 4
  ·exact tree_q15 d hd hz ht m b hb hm hs h3 hlp hq hu
  ·exact tree_q15n d hd hz ht m b hb hm hs h3 hlp hq hu
 ·by_cases hu:0 < bitV .and .i64 m.uses 8
  ·exact tree_q16 d hd hz ht m b hb hm hs h3 hlp hq hu
  ·exact tree_q16n d hd hz ht m b hb hm hs h3 hlp hq hu
 ·by_cases hu:0 < bitV .and .i64 m.uses 1
  ·by_cases hcp:0 < m.caps
   ·exact tree_q17 d hd hz ht m b hb hm hs h3 hlp hq hu hcp
   ·exact tree_q17m d hd hz ht m b hb hm hs h3 hlp hq hu hcp
  ·exact tree_q17n d hd hz ht m b hb hm hs h3 hlp hq hu
 ·by_cases hu:0 < bitV .and .i64 m.uses 2
  ·by_cases hcp:0 < m.caps
   ·exact tree_q18 d hd hz ht m b hb hm hs h3 hlp hq hu hcp
   ·exact tree_q18m d hd hz ht m b hb hm hs h3 hlp hq hu hcp
  ·exact tree_q18n d hd hz ht m b hb hm hs h3 hlp hq hu
 ·exact tree_q19 d hd hz ht m b hb hm hs h3 hlp hq
theorem tree_ok:∀d,d≤1000→zD d≤1000000000→TreeOK d
 | 0,_,_=>tree_zero
 | d + 1,hd,hz=>tree_succ d (by omega) (by have:=zD_pos d; simp only[zD] at hz; omega) (tree_ok d (by omega) (by have:=zD_pos d; simp only[zD] at hz; omega))
structure Pat where
 re:Re
 caps:Int
 runes:Bool
def patV (p:Pat):V:=.ag (p.re.cells.map .d++[i64 p.caps,bV p.runes])
def patOf (l:List Int) (uses most:Int):Pat :=
 let x:=Mk.tree 5 ⟨l,0,uses,most,0⟩
 ⟨x.1,x.2.caps,false⟩
theorem renO_mkO (ρ:List Nat) (m:Mk):renO ρ (mkO m)=mkO m:=rfl
theorem take_cells_app (re:Re) (l:List V):(re.cells.map V.d++l).take 8=re.cells.map V.d:=List.take_left' (by simp [Re.cells_len])
theorem drop_cells_app (re:Re) (l:List V) (n:Nat):(re.cells.map V.d++l).drop (n + 8)=l.drop n:=by
 rw[Nat.add_comm,← List.drop_drop,List.drop_left' (by simp [Re.cells_len])]
theorem pattern_ok (l:List Int) (uses most:Int) (hl:∀x∈l,I64 x) (h0:0≤most) (h1:most≤1000000):PureOK prog 7 [.d (intsD l),i64 uses,i64 most] (patV (patOf l uses most)):=by
 refine fn_ok func7 rfl ntmps7 results7 rfl 0 455 (by simp) (by simp) ?_
 simp only[zW,simprocAttr,i64]
 refine call_at 1 (tree_ok 5 (by omega) (by decide) ⟨l,0,uses,most,0⟩ 0 (by omega) ⟨hl,by simp,by simp,by simpa using h0,h1,by simp,by simp⟩ (by decide)) rfl rfl rfl rfl (renV_reV _ _) ?_
 rw[renO_mkO]
 have hR:patOf l uses most=⟨(Mk.tree 5 ⟨l,0,uses,most,0⟩).1,(Mk.tree 5 ⟨l,0,uses,most,0⟩).2.caps,false⟩:=rfl
 rw[hR]
 generalize Mk.tree 5 ⟨l,0,uses,most,0⟩=R
 simp only[zW,simprocAttr,i64]
 refine draw_c mix [6] [] (by rfl) ?_
 simp only[zW,simprocAttr,i64,mkO,take_cells_app,drop_cells_app,List.length_append]
 simp only[zW,simprocAttr,Re.cells_eq,patV,bV,i64]
end Go.Proofs.Ytllagoeijcjpiaa
