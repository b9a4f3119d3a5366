/- A part of the proof (MM16). -/
import Derived.Test.YtpppfpaalcbggaaML12
set_option linter.unusedSimpArgs false
set_option linter.unusedVariables false
set_option maxRecDepth 100000
set_option maxHeartbeats 80000000
namespace Go.Proofs.Ytpppfpaalcbggaa
open Go.VL
def mpO (p:MPl):List VL.Obj:=[⟨0,true,3,[[.d (iD p.at_),.d (capO9 p.caps),.d p.todo.d]]⟩,⟨0,true,3,[[.d (iD 0),.d (.sc (.pointer none)),.d (.sc (.pointer none))]]⟩]
theorem msearch_step {k:Nat} (ih:∀j,j < k→MSearchOK j):MSearchOK k:=by
 intro m base p x hW hx
 unfold Mm.objs
 refine fn_ok Try.func56 rfl Try.ntmps56 Try.results56 rfl 7 999 (by exact Nat.le_refl _) (by simp) ?_
 simp only[zX,Nat.reduceShiftRight,Nat.reduceMod,Nat.reduceLT,Nat.reduceMul,Nat.reduceSub,Int.reduceToNat,Int.reduceNeg,Int.reduceLT,Int.reduceLE,Int.reduceEq,Nat.reduceEqDiff,Nat.reduceAdd,Nat.reduceLeDiff,reduceIte,reduceCtorEq,Nat.reduceBEq,i64,bV,iD,bD,List.cons_append,List.nil_append,List.map_cons,List.map_nil,MPl.v,MPl.cells,rsM]
 refine loop_rule (fun n e s=>∃(j:Nat) (m1:Mm) (p1:MPl) (al:Bool),n=j∧j≤k∧e 0=.rf 0 0 0 0∧e 1=i64 (base:Nat)∧e 5=.rf 7 0 0 0∧e 6=.rf 8 0 0 0∧e 8=bV al∧s=m1.objs++mpO p1∧m1.wf∧srchM j true m1 base p1 al=some x)
  ⟨_,_,_,Cln.refl,k,m,p,true,rfl,Nat.le_refl _,rfl,rfl,rfl,rfl,rfl,rfl,hW,hx⟩ ?_
 clear hx hW
 rintro n e s ⟨j,m1,p1,al,rfl,hj,h0,h1,h5,h6,h8,rfl,hW,hx⟩
 have hall:=mm_all m1
 cases n with
 | zero=>cases hx
 | succ j =>
  by_cases hsp:m1.spent=true
  ·have hx':=hx
   simp only[srchM] at hx'
   rw[if_pos ⟨trivial,hsp⟩] at hx'
   cases hx'
   unfold Mm.objs mpO
   simp only[zX,Nat.reduceShiftRight,Nat.reduceMod,Nat.reduceLT,Nat.reduceMul,Nat.reduceSub,Int.reduceToNat,Int.reduceNeg,Int.reduceLT,Int.reduceLE,Int.reduceEq,Nat.reduceEqDiff,Nat.reduceAdd,Nat.reduceLeDiff,reduceIte,reduceCtorEq,Nat.reduceBEq,i64,bV,iD,bD,List.cons_append,List.nil_append,List.map_cons,List.map_nil,MPl.v,MPl.cells,rsM,h0,h1,h5,h6,h8,hsp,Bool.not_true]
   exact⟨hall,rfl⟩
  ·have hspf:m1.spent=false:=by simpa using hsp
   have hx2:srchM (j + 1) false m1 base p1 al=some x:=by
    simp only[srchM] at hx ⊢
    rw[if_neg (fun h=>hsp h.2)] at hx
    rw[if_neg (fun h=>by cases h.1)]
    exact hx
   clear hx
   unfold Mm.objs mpO
   simp only[zX,Nat.reduceShiftRight,Nat.reduceMod,Nat.reduceLT,Nat.reduceMul,Nat.reduceSub,Int.reduceToNat,Int.reduceNeg,Int.reduceLT,Int.reduceLE,Int.reduceEq,Nat.reduceEqDiff,Nat.reduceAdd,Nat.reduceLeDiff,reduceIte,reduceCtorEq,Nat.reduceBEq,i64,bV,iD,bD,List.cons_append,List.nil_append,List.map_cons,List.map_nil,MPl.v,MPl.cells,rsM,h0,h1,h5,h6,h8,hspf,Bool.not_false]
   refine loop_rule (fun n e s=>∃(i:Nat) (m2:Mm) (p2:MPl) (al2:Bool),n=i∧i≤j + 1∧e 0=.rf 0 0 0 0∧e 1=i64 (base:Nat)∧e 5=.rf 7 0 0 0∧e 6=.rf 8 0 0 0∧e 8=bV al2∧s=m2.objs++mpO p2∧m2.wf∧srchM i false m2 base p2 al2=some x)
    ⟨_,_,_,Cln.refl,j + 1,m1,p1,al,rfl,Nat.le_refl _,?_,?_,?_,?_,?_,?_,hW,hx2⟩ ?_ <;> (try simp only[zU,Nat.reduceBEq,Nat.reduceShiftRight,Nat.reduceMod,Nat.reduceEqDiff,reduceIte])
   ·exact h0
   ·exact h1
   ·exact h5
   ·exact h6
   ·exact h8
   ·unfold Mm.objs mpO; simp only[hspf]; rfl
   clear hx2 h0 h1 h5 h6 h8 hsp hspf hW hall
   rintro n e s ⟨i,m2,p2,al2,rfl,hi,h0,h1,h5,h6,h8,rfl,hW,hx⟩
   have hall:=mm_all m2
   cases n with
   | zero=>cases hx
   | succ i =>
    by_cases hc:al2=true∧p2.goals=true
    ·simp only[srchM] at hx
     rw[if_neg (fun h=>by cases h.1)] at hx
     rw[if_pos hc] at hx
     obtain⟨rfl,hg⟩:=hc
     obtain⟨pa,pc,todo⟩:=p2
     cases todo with
     | nil=>cases hg
     | mk kind nd kn at_ env next =>
      cases hadv:advM (fun m base p=>srchM i true m base p true) m2 ⟨pa,pc,.mk kind nd kn at_ env next⟩ with
      | none=>rw[hadv] at hx; cases hx
      | some y =>
       obtain⟨m3,p3,al3⟩:=y
       rw[hadv] at hx
       simp only at hx
       have hcl:=fun ext=>call_mm (mmadv_ok (ih i (by omega)) m2 _ hW hadv) rfl rfl rfl ext
       have hW3:=wf_adv (fun m base p x hm h=>wf_srch i true m base p true x hm h) hW hadv
       unfold Mm.objs at hcl
       simp only[i64,bV,iD,bD,List.cons_append,List.nil_append,List.map_cons,List.map_nil,MPl.v,MPl.cells,rsM,Gl.d] at hcl
       unfold Mm.objs mpO
       simp only[zX,Nat.reduceShiftRight,Nat.reduceMod,Nat.reduceLT,Nat.reduceMul,Nat.reduceSub,Int.reduceToNat,Int.reduceNeg,Int.reduceLT,Int.reduceLE,Int.reduceEq,Nat.reduceEqDiff,Nat.reduceAdd,Nat.reduceLeDiff,reduceIte,reduceCtorEq,Nat.reduceBEq,i64,bV,iD,bD,List.cons_append,List.nil_append,List.map_cons,List.map_nil,MPl.v,MPl.cells,rsM,Gl.d,h0,h1,h5,h6,h8]
       refine⟨⟨_,rfl⟩,?_⟩
       refine callWp_mono (hcl _) (fun v s' hv=>?_); obtain⟨rfl,rfl⟩:=hv
       simp only[zX,Nat.reduceShiftRight,Nat.reduceMod,Nat.reduceLT,Nat.reduceMul,Nat.reduceSub,Int.reduceToNat,Int.reduceNeg,Int.reduceLT,Int.reduceLE,Int.reduceEq,Nat.reduceEqDiff,Nat.reduceAdd,Nat.reduceLeDiff,reduceIte,reduceCtorEq,Nat.reduceBEq,i64,bV,iD,bD,List.cons_append,List.nil_append,List.map_cons,List.map_nil,MPl.v,MPl.cells,rsM,h0,h1,h5,h6,h8]
       refine⟨i,_,_,by omega,Cln.refl,i,m3,p3,al3,rfl,by omega,?_,?_,?_,?_,?_,rfl,hW3,hx⟩ <;> (try simp only[zU,Nat.reduceBEq,Nat.reduceShiftRight,Nat.reduceMod,Nat.reduceEqDiff,reduceIte])
       ·exact h0
       ·exact h1
       ·exact h5
       ·exact h6
    ·cases al2 with
     | true =>
      rw[srchM,if_neg (fun h=>by cases h.1),if_neg hc,if_pos rfl] at hx
      cases hx
      obtain⟨pa,pc,todo⟩:=p2
      cases todo with
      | mk _ _ _ _ _ _=>exact absurd ⟨rfl,rfl⟩ hc
      | nil =>
       unfold Mm.objs mpO
       simp only[zX,Nat.reduceShiftRight,Nat.reduceMod,Nat.reduceLT,Nat.reduceMul,Nat.reduceSub,Int.reduceToNat,Int.reduceNeg,Int.reduceLT,Int.reduceLE,Int.reduceEq,Nat.reduceEqDiff,Nat.reduceAdd,Nat.reduceLeDiff,reduceIte,reduceCtorEq,Nat.reduceBEq,i64,bV,iD,bD,List.cons_append,List.nil_append,List.map_cons,List.map_nil,MPl.v,MPl.cells,rsM,gl_nil,h0,h1,h5,h6,h8]
       refine⟨⟨_,rfl⟩,?_⟩
       refine draw_c mix [] [(0,[7],[]),(2,[0],[]),(3,[0],[]),(4,[0],[]),(6,[8],[8])] (by rfl) ?_
       simp only[zX,Nat.reduceShiftRight,Nat.reduceMod,Nat.reduceLT,Nat.reduceMul,Nat.reduceSub,Int.reduceToNat,Int.reduceNeg,Int.reduceLT,Int.reduceLE,Int.reduceEq,Nat.reduceEqDiff,Nat.reduceAdd,Nat.reduceLeDiff,reduceIte,reduceCtorEq,Nat.reduceBEq,i64,bV,iD,bD,List.cons_append,List.nil_append,List.map_cons,List.map_nil,MPl.v,MPl.cells,rsM,gl_nil,h0,h1,h5,h6,h8]
       exact hall
     | false =>
      unfold Mm.objs mpO
      simp only[zX,Nat.reduceShiftRight,Nat.reduceMod,Nat.reduceLT,Nat.reduceMul,Nat.reduceSub,Int.reduceToNat,Int.reduceNeg,Int.reduceLT,Int.reduceLE,Int.reduceEq,Nat.reduceEqDiff,Nat.reduceAdd,Nat.reduceLeDiff,reduceIte,reduceCtorEq,Nat.reduceBEq,i64,bV,iD,bD,List.cons_append,List.nil_append,List.map_cons,List.map_nil,MPl.v,MPl.cells,rsM,h0,h1,h5,h6,h8]
      refine loop_rule (fun n e s=>∃(l:Nat) (m3:Mm) (p3:MPl) (al3:Bool),n=l∧(l≤i + 1∧(al3=true→l≤i))∧e 0=.rf 0 0 0 0∧e 1=i64 (base:Nat)∧e 5=.rf 7 0 0 0∧e 6=.rf 8 0 0 0∧e 8=bV al3∧s=m3.objs++mpO p3∧m3.wf∧srchM l al3 m3 base p3 al3=some x)
       ⟨_,_,_,Cln.refl,i + 1,m2,p2,false,rfl,⟨Nat.le_refl _,fun h=>by cases h⟩,?_,?_,?_,?_,?_,?_,hW,hx⟩ ?_ <;> (try simp only[zU,Nat.reduceBEq,Nat.reduceShiftRight,Nat.reduceMod,Nat.reduceEqDiff,reduceIte])
      ·exact h0
      ·exact h1
      ·exact h5
      ·exact h6
      ·exact h8
      ·unfold Mm.objs mpO; rfl
      clear hx h0 h1 h5 h6 h8 hW hall hc
      rintro n e s ⟨l,m3,p3,al3,rfl,hl,h0,h1,h5,h6,h8,rfl,hW,hx⟩
      have hall:=mm_all m3
      cases al3 with
      | true =>
       unfold Mm.objs mpO
       simp only[zX,Nat.reduceShiftRight,Nat.reduceMod,Nat.reduceLT,Nat.reduceMul,Nat.reduceSub,Int.reduceToNat,Int.reduceNeg,Int.reduceLT,Int.reduceLE,Int.reduceEq,Nat.reduceEqDiff,Nat.reduceAdd,Nat.reduceLeDiff,reduceIte,reduceCtorEq,Nat.reduceBEq,i64,bV,iD,bD,List.cons_append,List.nil_append,List.map_cons,List.map_nil,MPl.v,MPl.cells,rsM,h0,h1,h5,h6,h8,Bool.not_true,Bool.not_false]
       have hli:=hl.2 rfl
       refine⟨n,_,_,by omega,Cln.refl,n,m3,p3,true,rfl,by omega,?_,?_,?_,?_,?_,rfl,hW,hx⟩ <;> (try simp only[zU,Nat.reduceBEq,Nat.reduceShiftRight,Nat.reduceMod,Nat.reduceEqDiff,reduceIte])
       ·exact h0
       ·exact h1
       ·exact h5
       ·exact h6
       ·exact h8
      | false =>
       cases n with
       | zero=>cases hx
       | succ l =>
        rw[srchM,if_neg (fun h=>by cases h.1),if_neg (fun h=>by cases h.1),if_neg (by simp)] at hx
        by_cases hb:m3.top≤base
        ·rw[if_pos hb] at hx
         cases hx
         have hbi:¬(base:Int) < (m3.top:Int):=by omega
         unfold Mm.objs mpO
         simp only[zX,Nat.reduceShiftRight,Nat.reduceMod,Nat.reduceLT,Nat.reduceMul,Nat.reduceSub,Int.reduceToNat,Int.reduceNeg,Int.reduceLT,Int.reduceLE,Int.reduceEq,Nat.reduceEqDiff,Nat.reduceAdd,Nat.reduceLeDiff,reduceIte,reduceCtorEq,Nat.reduceBEq,i64,bV,iD,bD,List.cons_append,List.nil_append,List.map_cons,List.map_nil,MPl.v,MPl.cells,rsM,h0,h1,h5,h6,h8,Bool.not_true,Bool.not_false,gt_iff_lt,hbi,Int.sub_zero]
         exact⟨hall,rfl⟩
        ·rw[if_neg hb] at hx
         have hbi:(base:Int) < (m3.top:Int):=by omega
         by_cases ht:m3.stk.length < m3.top∨1200000000000 < m3.top
         ·rw[if_pos ht] at hx; cases hx
         rw[if_neg ht] at hx
         cases hlk:m3.stk[m3.top - 1]? with
         | none=>rw[hlk] at hx; cases hx
         | some o =>
          rw[hlk] at hx
          have w1:IntKind.i64.wrap ((m3.top:Int) - 1)=(m3.top:Int) - 1:=w64 _ (by omega)
          have q1:(0:Int)≤(m3.top:Int) - 1:=by omega
          have q2:(m3.top:Int) - 1 < (m3.top:Int):=by omega
          have q3:((m3.top:Int) - 1).toNat=m3.top - 1:=by omega
          have q4:(m3.top:Int) - 1≤(m3.top:Int):=by omega
          have q5:m3.top≤m3.stk.length:=by omega
          have q9:min m3.top m3.stk.length=m3.top:=by omega
          cases o with
          | place last =>
           simp only at hx
           have hls:stM (.place last)=[V.d (D.sc (.int .i64 last.at_)),.d (capO9 last.caps),.d last.todo.d,.d (.sc (.int .i16 0)),.d (.sc (.int .i16 0)),.d (.sc (.int .i16 0)),.d (.sc (.int .i32 0)),.d (.sc (.int .i32 0)),.d (.sc (.int .i32 0)),.d (.sc (.int .i32 0)),.d (.sc (.bool false))]:=rfl
           unfold Mm.objs mpO
           simp only[zX,Nat.reduceShiftRight,Nat.reduceMod,Nat.reduceLT,Nat.reduceMul,Nat.reduceSub,Int.reduceToNat,Int.reduceNeg,Int.reduceLT,Int.reduceLE,Int.reduceEq,Nat.reduceEqDiff,Nat.reduceAdd,Nat.reduceLeDiff,reduceIte,reduceCtorEq,Nat.reduceBEq,i64,bV,iD,bD,List.cons_append,List.nil_append,List.map_cons,List.map_nil,MPl.v,MPl.cells,rsM,h0,h1,h5,h6,h8,Bool.not_true,Bool.not_false,gt_iff_lt,hbi,Int.sub_zero]
           refine draw_first Cln0.reserve ?_
           refine draw_c mix [] [(12,[9],[9]),(13,[9],[9])] (by rfl) ?_
           simp only[zX,Nat.reduceShiftRight,Nat.reduceMod,Nat.reduceLT,Nat.reduceMul,Nat.reduceSub,Int.reduceToNat,Int.reduceNeg,Int.reduceLT,Int.reduceLE,Int.reduceEq,Nat.reduceEqDiff,Nat.reduceAdd,Nat.reduceLeDiff,reduceIte,reduceCtorEq,Nat.reduceBEq,i64,bV,iD,bD,List.cons_append,List.nil_append,List.map_cons,List.map_nil,MPl.v,MPl.cells,rsM,hole,h0,h1,h5,h6,h8,w1,q1,q2,q3,q4,q5,q9,Nat.zero_add,hlk,hls,List.getElem?_map,Option.map_some,List.length_take,List.length_map,List.length_cons,List.length_nil,Int.sub_zero]
           refine draw_c mix [] [(2,[0],[]),(3,[0],[]),(4,[0],[]),(6,[0],[]),(7,[0],[]),(8,[0],[]),(12,[0],[]),(13,[0],[]),(14,[0],[0])] (by rfl) ?_
           simp only[zX,Nat.reduceShiftRight,Nat.reduceMod,Nat.reduceLT,Nat.reduceMul,Nat.reduceSub,Int.reduceToNat,Int.reduceNeg,Int.reduceLT,Int.reduceLE,Int.reduceEq,Nat.reduceEqDiff,Nat.reduceAdd,Nat.reduceLeDiff,reduceIte,reduceCtorEq,Nat.reduceBEq,i64,bV,iD,bD,List.cons_append,List.nil_append,List.map_cons,List.map_nil,MPl.v,MPl.cells,rsM,h0,h1,h5,h6,h8,w1,q1,q2,q3,q4,q5,q9,Nat.zero_add,hlk,hls,List.getElem?_map,Option.map_some,List.length_take,List.length_map,List.length_cons,List.length_nil,Int.sub_zero]
           refine⟨l,_,_,by omega,Cln.cut (s':=m3.pop.objs++mpO last) 9 (by omega) (by unfold Mm.objs mpO; rfl) ?_ [0,1,5,6,8] ?_,l,m3.pop,last,true,rfl,⟨by omega,fun _=>by omega⟩,?_,?_,?_,?_,?_,rfl,hW,hx⟩ <;> (try simp only[zU,Nat.reduceBEq,Nat.reduceShiftRight,Nat.reduceMod,Nat.reduceEqDiff,reduceIte])
           ·rw[List.all_append,mm_ok' _ 9 (by omega)]; rfl
           ·simp [refsV,h0,h1,h5,h6,i64,bV]
           ·exact h0
           ·exact h1
           ·exact h5
           ·exact h6
          | note b =>
           simp only at hx
           have hbf:=hW.2 b (List.mem_of_getElem? hlk)
           have hW2:(m3.pop.fail b).wf:=wf_fail (m:=m3.pop) hW hbf
           have hkv:∀a1 a2 a3 a4 a5 a6 a7,kVal (.ag [.d (.sc (.int .i16 a1)),.d (.sc (.int .i16 a2)),.d (.sc (.int .i16 a3)),.d (.sc (.int .i32 a4)),.d (.sc (.int .i32 a5)),.d (.sc (.int .i32 a6)),.d (.sc (.int .i32 a7))])=some (Beg.val ⟨a1,a2,a3,a4,a5,a6,a7⟩):=fun _ _ _ _ _ _ _=>rfl
           have hrows:∀p∈m3.failed.map (fun b=>(b.val,(Value.agg #[]))),KeyOk Try.prog 114 p.1:=fun p hp=>by
            obtain⟨x,hx,rfl⟩:=List.mem_map.1 hp
            exact ok_beg (hW.1.1 x hx)
           have hfk:=fail_find m3.failed b
           have hsn:=failE_snoc m3.failed b
           obtain⟨mf,hmf⟩:∃mf,m3.pop.fail b=mf:=⟨_,rfl⟩
           have hallf:=mm_ok' mf 9 (by omega)
           have hls:stM (.note b)=[V.d (D.sc (.int .i64 0)),.d (.sc (.pointer none)),.d (.sc (.pointer none)),.d (.sc (.int .i16 b.node)),.d (.sc (.int .i16 b.kind)),.d (.sc (.int .i16 b.n)),.d (.sc (.int .i32 b.at_)),.d (.sc (.int .i32 b.stop)),.d (.sc (.int .i32 b.env)),.d (.sc (.int .i32 b.caps)),.d (.sc (.bool true))]:=rfl
           rw[hmf] at hx hW2
           by_cases hm:b∈m3.failed
           ·rw[if_pos hm] at hfk
            unfold Mm.fail at hmf
            rw[if_pos (show b∈m3.pop.failed from hm)] at hmf
            unfold Mm.objs mpO
            simp only[zX,Nat.reduceShiftRight,Nat.reduceMod,Nat.reduceLT,Nat.reduceMul,Nat.reduceSub,Int.reduceToNat,Int.reduceNeg,Int.reduceLT,Int.reduceLE,Int.reduceEq,Nat.reduceEqDiff,Nat.reduceAdd,Nat.reduceLeDiff,reduceIte,reduceCtorEq,Nat.reduceBEq,i64,bV,iD,bD,List.cons_append,List.nil_append,List.map_cons,List.map_nil,MPl.v,MPl.cells,rsM,h0,h1,h5,h6,h8,Bool.not_true,Bool.not_false,gt_iff_lt,hbi,Int.sub_zero]
            refine draw_first Cln0.reserve ?_
            refine draw_c mix [] [(12,[9],[9]),(13,[9],[9])] (by rfl) ?_
            simp only[zX,Nat.reduceShiftRight,Nat.reduceMod,Nat.reduceLT,Nat.reduceMul,Nat.reduceSub,Int.reduceToNat,Int.reduceNeg,Int.reduceLT,Int.reduceLE,Int.reduceEq,Nat.reduceEqDiff,Nat.reduceAdd,Nat.reduceLeDiff,reduceIte,reduceCtorEq,Nat.reduceBEq,i64,bV,iD,bD,List.cons_append,List.nil_append,List.map_cons,List.map_nil,MPl.v,MPl.cells,rsM,hole,h0,h1,h5,h6,h8,w1,q1,q2,q3,q4,q5,q9,Nat.zero_add,hlk,hls,List.getElem?_map,Option.map_some,List.length_take,List.length_map,List.length_cons,List.length_nil,Int.sub_zero]
            refine draw_c mix [] [(2,[0],[]),(3,[0],[]),(4,[0],[]),(6,[0],[]),(7,[0],[]),(8,[0],[]),(12,[0],[]),(13,[0],[]),(14,[0],[0])] (by rfl) ?_
            simp only[zX,Nat.reduceShiftRight,Nat.reduceMod,Nat.reduceLT,Nat.reduceMul,Nat.reduceSub,Int.reduceToNat,Int.reduceNeg,Int.reduceLT,Int.reduceLE,Int.reduceEq,Nat.reduceEqDiff,Nat.reduceAdd,Nat.reduceLeDiff,reduceIte,reduceCtorEq,Nat.reduceBEq,i64,bV,iD,bD,List.cons_append,List.nil_append,List.map_cons,List.map_nil,MPl.v,MPl.cells,rsM,h0,h1,h5,h6,h8,w1,q1,q2,q3,q4,q5,q9,Nat.zero_add,hlk,hls,List.getElem?_map,Option.map_some,List.length_take,List.length_map,List.length_cons,List.length_nil,Int.sub_zero]
            refine draw_c mix [7] [] (by rfl) ?_
            simp only[zX,Nat.reduceShiftRight,Nat.reduceMod,Nat.reduceLT,Nat.reduceMul,Nat.reduceSub,Int.reduceToNat,Int.reduceNeg,Int.reduceLT,Int.reduceLE,Int.reduceEq,Nat.reduceEqDiff,Nat.reduceAdd,Nat.reduceLeDiff,reduceIte,reduceCtorEq,Nat.reduceBEq,i64,bV,iD,bD,List.cons_append,List.nil_append,List.map_cons,List.map_nil,MPl.v,MPl.cells,rsM,h0,h1,h5,h6,h8,updWp,updFWp,updKWp,mt_fail,mft_fail,und_fail,hkv,xVal]
            refine⟨⟨law_beg,ok_beg hbf⟩,m3.failed.map (fun b=>(b.val,.agg #[])),some (.agg #[]),⟨rfl,hrows,hfk⟩,?_⟩
            simp only[zX,Nat.reduceShiftRight,Nat.reduceMod,Nat.reduceLT,Nat.reduceMul,Nat.reduceSub,Int.reduceToNat,Int.reduceNeg,Int.reduceLT,Int.reduceLE,Int.reduceEq,Nat.reduceEqDiff,Nat.reduceAdd,Nat.reduceLeDiff,reduceIte,reduceCtorEq,Nat.reduceBEq,i64,bV,iD,bD,List.cons_append,List.nil_append,List.map_cons,List.map_nil,MPl.v,MPl.cells,rsM,h0,h1,h5,h6,h8]
            refine⟨l,_,_,by omega,Cln.cut (s':=mf.objs++mpO p3) 9 (by omega) (by rw[← hmf]; unfold Mm.objs mpO; rfl) ?_ [0,1,5,6,8] ?_,l,mf,p3,false,rfl,⟨by omega,fun h=>by cases h⟩,?_,?_,?_,?_,?_,rfl,hW2,hx⟩ <;> (try simp only[zU,Nat.reduceBEq,Nat.reduceShiftRight,Nat.reduceMod,Nat.reduceEqDiff,reduceIte])
            ·rw[List.all_append,hallf]; rfl
            ·simp [refsV,h0,h1,h5,h6,h8,i64,bV]
            ·exact h0
            ·exact h1
            ·exact h5
            ·exact h6
            ·exact h8
           ·rw[if_neg hm] at hfk
            unfold Mm.fail at hmf
            rw[if_neg (show ¬b∈m3.pop.failed from hm)] at hmf
            unfold Mm.objs mpO
            simp only[zX,Nat.reduceShiftRight,Nat.reduceMod,Nat.reduceLT,Nat.reduceMul,Nat.reduceSub,Int.reduceToNat,Int.reduceNeg,Int.reduceLT,Int.reduceLE,Int.reduceEq,Nat.reduceEqDiff,Nat.reduceAdd,Nat.reduceLeDiff,reduceIte,reduceCtorEq,Nat.reduceBEq,i64,bV,iD,bD,List.cons_append,List.nil_append,List.map_cons,List.map_nil,MPl.v,MPl.cells,rsM,h0,h1,h5,h6,h8,Bool.not_true,Bool.not_false,gt_iff_lt,hbi,Int.sub_zero]
            refine draw_first Cln0.reserve ?_
            refine draw_c mix [] [(12,[9],[9]),(13,[9],[9])] (by rfl) ?_
            simp only[zX,Nat.reduceShiftRight,Nat.reduceMod,Nat.reduceLT,Nat.reduceMul,Nat.reduceSub,Int.reduceToNat,Int.reduceNeg,Int.reduceLT,Int.reduceLE,Int.reduceEq,Nat.reduceEqDiff,Nat.reduceAdd,Nat.reduceLeDiff,reduceIte,reduceCtorEq,Nat.reduceBEq,i64,bV,iD,bD,List.cons_append,List.nil_append,List.map_cons,List.map_nil,MPl.v,MPl.cells,rsM,hole,h0,h1,h5,h6,h8,w1,q1,q2,q3,q4,q5,q9,Nat.zero_add,hlk,hls,List.getElem?_map,Option.map_some,List.length_take,List.length_map,List.length_cons,List.length_nil,Int.sub_zero]
            refine draw_c mix [] [(2,[0],[]),(3,[0],[]),(4,[0],[]),(6,[0],[]),(7,[0],[]),(8,[0],[]),(12,[0],[]),(13,[0],[]),(14,[0],[0])] (by rfl) ?_
            simp only[zX,Nat.reduceShiftRight,Nat.reduceMod,Nat.reduceLT,Nat.reduceMul,Nat.reduceSub,Int.reduceToNat,Int.reduceNeg,Int.reduceLT,Int.reduceLE,Int.reduceEq,Nat.reduceEqDiff,Nat.reduceAdd,Nat.reduceLeDiff,reduceIte,reduceCtorEq,Nat.reduceBEq,i64,bV,iD,bD,List.cons_append,List.nil_append,List.map_cons,List.map_nil,MPl.v,MPl.cells,rsM,h0,h1,h5,h6,h8,w1,q1,q2,q3,q4,q5,q9,Nat.zero_add,hlk,hls,List.getElem?_map,Option.map_some,List.length_take,List.length_map,List.length_cons,List.length_nil,Int.sub_zero]
            refine draw_c mix [7] [] (by rfl) ?_
            simp only[zX,Nat.reduceShiftRight,Nat.reduceMod,Nat.reduceLT,Nat.reduceMul,Nat.reduceSub,Int.reduceToNat,Int.reduceNeg,Int.reduceLT,Int.reduceLE,Int.reduceEq,Nat.reduceEqDiff,Nat.reduceAdd,Nat.reduceLeDiff,reduceIte,reduceCtorEq,Nat.reduceBEq,i64,bV,iD,bD,List.cons_append,List.nil_append,List.map_cons,List.map_nil,MPl.v,MPl.cells,rsM,h0,h1,h5,h6,h8,updWp,updFWp,updKWp,mt_fail,mft_fail,und_fail,hkv,xVal]
            refine⟨⟨law_beg,ok_beg hbf⟩,m3.failed.map (fun b=>(b.val,.agg #[])),none,⟨rfl,hrows,hfk⟩,?_⟩
            simp only[zX,Nat.reduceShiftRight,Nat.reduceMod,Nat.reduceLT,Nat.reduceMul,Nat.reduceSub,Int.reduceToNat,Int.reduceNeg,Int.reduceLT,Int.reduceLE,Int.reduceEq,Nat.reduceEqDiff,Nat.reduceAdd,Nat.reduceLeDiff,reduceIte,reduceCtorEq,Nat.reduceBEq,i64,bV,iD,bD,List.cons_append,List.nil_append,List.map_cons,List.map_nil,MPl.v,MPl.cells,rsM,h0,h1,h5,h6,h8,hsn]
            refine⟨l,_,_,by omega,Cln.cut (s':=mf.objs++mpO p3) 9 (by omega) (by rw[← hmf]; unfold Mm.objs mpO; rfl) ?_ [0,1,5,6,8] ?_,l,mf,p3,false,rfl,⟨by omega,fun h=>by cases h⟩,?_,?_,?_,?_,?_,rfl,hW2,hx⟩ <;> (try simp only[zU,Nat.reduceBEq,Nat.reduceShiftRight,Nat.reduceMod,Nat.reduceEqDiff,reduceIte])
            ·rw[List.all_append,hallf]; rfl
            ·simp [refsV,h0,h1,h5,h6,h8,i64,bV]
            ·exact h0
            ·exact h1
            ·exact h5
            ·exact h6
            ·exact h8
theorem msearch_ok (k:Nat):MSearchOK k:=by
 induction k using Nat.strongRecOn with
 | ind k ih=>exact msearch_step ih
end Go.Proofs.Ytpppfpaalcbggaa
