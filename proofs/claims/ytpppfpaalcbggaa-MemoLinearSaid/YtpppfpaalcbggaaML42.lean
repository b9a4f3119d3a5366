/- A part of the proof (S14 S15). -/
import Derived.Test.YtpppfpaalcbggaaML41
set_option linter.unusedSimpArgs false
set_option linter.unusedVariables false
set_option maxRecDepth 100000
set_option maxHeartbeats 80000000
namespace Go.Proofs.Ytpppfpaalcbggaa
open Go.VL Go.Proofs.Try
theorem stay_okS (g b a:Nat) {m:Smt} {x:Int} {c:Option CapsL} {re:Re} {ext:List D} {k:Int} {nx:SGoal}:STask.wp g b a m m .zero false (.call ⟨x,c,.moved x re ext k nx⟩):=by
 have hM:=sobj_ok m b a 3
 unfold STask.wp SRun SGoal.fn SGoal.bound SGoal.next
 simp only[liftG_cons,liftG_nil,liftV_el1,liftRound,iD,liftV_int]
 unfold Smt.objs
 refine fn_ok func107 rfl ntmps107 results107 rfl 3 799 (by simp) (by simp) ?_
 simp only[zX,Nat.reduceShiftRight,Nat.reduceMod,Nat.reduceLT,Nat.reduceMul,Nat.reduceSub,Int.reduceToNat,Int.reduceNeg,Int.reduceLT,Int.reduceLE,Int.reduceEq,Nat.reduceEqDiff,Nat.reduceAdd,Nat.reduceLeDiff,reduceIte,reduceCtorEq,Nat.reduceBEq,i64,bV,iD,rawAt_bx,srV,SPlace.v,SPlace.cells,SPlace.zero,capsO,SGoal.d,List.map_cons,List.map_nil]
 exact hM
theorem moved_okS (g b a:Nat) {m m':Smt} {x y:Int} {c:Option CapsL} {re:Re} {ext:List D} {k:Int} {nx:SGoal} {r:SPlace} {f:Bool} (hy:x≠y) (h:STask.wp g b a m m' r f (.call ⟨x,c,.round re ext k nx⟩)):STask.wp g b a m m' r f (.call ⟨x,c,.moved y re ext k nx⟩):=by
 have hM:=sobj_ok m' b a 3
 have hyf:(x=y)=False:=eq_false hy
 unfold STask.wp SGoal.fn SGoal.bound SGoal.next at h ⊢
 simp only[liftG_cons,liftG_nil,liftV_el1,liftRound,iD,liftV_int,liftRe,mP,liftV_raw,rawPp_pp] at h ⊢
 have hs:=fun ex=>SRun.ext h rfl rfl ex
 unfold SRun
 unfold Smt.objs at *
 simp only[i64] at hs
 refine fn_ok func107 rfl ntmps107 results107 rfl 3 799 (by simp) (by simp) ?_
 simp only[zX,Nat.reduceShiftRight,Nat.reduceMod,Nat.reduceLT,Nat.reduceMul,Nat.reduceSub,Int.reduceToNat,Int.reduceNeg,Int.reduceLT,Int.reduceLE,Int.reduceEq,Nat.reduceEqDiff,Nat.reduceAdd,Nat.reduceLeDiff,reduceIte,reduceCtorEq,Nat.reduceBEq,i64,bV,iD,rawAt_bx,hyf]
 refine callWp_mono (hs _) (fun v s' hv=>?_); obtain⟨rfl,rfl⟩:=hv
 simp only[zX,Nat.reduceShiftRight,Nat.reduceMod,Nat.reduceLT,Nat.reduceMul,Nat.reduceSub,Int.reduceToNat,Int.reduceNeg,Int.reduceLT,Int.reduceLE,Int.reduceEq,Nat.reduceEqDiff,Nat.reduceAdd,Nat.reduceLeDiff,reduceIte,reduceCtorEq,Nat.reduceBEq,i64,bV,iD,srV,SPlace.v,SPlace.cells,List.map_cons,List.map_nil,List.cons_append,List.nil_append]
 exact hM
theorem SRun.pure {f:FuncId} {args:List V} {g b a:Nat} {m:Smt} {r:SPlace} {fd:Bool} (h:PureOK prog f args (srV b a r fd)) (ha:refsV.go 0 args=true):SRun f args g b a m m r fd :=
 call_pure h ha rfl ⟨rfl,rfl⟩
theorem fin_wpS (g b a:Nat) {m:Smt} {x y:Int} {c:CapsL} {re:Re} {ext:List D} {nx:SGoal} (hl:c.length=9) (h0:1≤re.n) (h1:re.n≤9):STask.wp g b a m m ⟨x,some (c.set (re.n - 1).toNat (y,x)),nx⟩ true (.call ⟨x,some c,.fin y re ext nx⟩):=by
 unfold STask.wp SGoal.fn SGoal.bound SGoal.next
 simp only[liftG_cons,liftG_nil,liftV_el1,iD,liftV_int,liftRe]
 exact SRun.pure (fin_okS b a ⟨x,some c,nx⟩ y re ext h0 h1 rfl hl) rfl
theorem here_wpS (g b a:Nat) {m:Smt} {x y:Int} {c c':Option CapsL} {t' nx:SGoal}:STask.wp g b a m m ⟨x,c,nx⟩ (decide (x=y)) (.call ⟨x,c,.here y c' t' nx⟩):=by
 unfold STask.wp SGoal.fn SGoal.bound SGoal.next
 simp only[liftG_cons,liftG_nil,liftV_el2,iD]
 exact SRun.pure (here_okS b a ⟨x,c,nx⟩ y (capsO c') (t'.d b a)) rfl
theorem bound_ok (g b a:Nat) (h:SGoal):(liftV.go (.pp 0 g 0 0 b a) (h.bound b a)).map (renV [0,1,2])=liftV.go (.pp 0 g 0 0 b a) (h.bound b a)∧refsV.go 3 (liftV.go (.pp 0 g 0 0 b a) (h.bound b a))=true:=by
 cases h <;> unfold SGoal.bound <;> simp only[liftG_cons,liftG_nil,liftV_el1,liftV_el2,liftRound,iD,liftV_int,liftRe,mP,liftV_raw,rawPp_pp]
 all_goals exact⟨rfl,rfl⟩
def pS (b a:Nat) (p:SPlace):VL.Obj:=⟨1,true,3,[[.d (iD p.at_),.d (capsO p.caps),.d (p.todo.d b a)]]⟩
theorem search_okS {n:Nat} (ih:SIH n) (g b a:Nat) {m m':Smt} {base:Nat} {r:SPlace} {f:Bool} (h:SEv n (.search base) m m' r f):STask.wp g b a m m' r f (.search base):=by
 have hM:=sobj_ok m' b a 3
 unfold STask.wp SRun
 unfold Smt.objs
 refine fn_ok func64 rfl ntmps64 results64 rfl 3 243 (by simp) (by simp) ?_
 simp only[zX,Nat.reduceShiftRight,Nat.reduceMod,Nat.reduceLT,Nat.reduceMul,Nat.reduceSub,Int.reduceToNat,Int.reduceNeg,Int.reduceLT,Int.reduceLE,Int.reduceEq,Nat.reduceEqDiff,Nat.reduceAdd,Nat.reduceLeDiff,reduceIte,reduceCtorEq,Nat.reduceBEq,i64,bV,iD]
 refine loop_rule (fun n1 e s=>∃(m1:Smt),n1≤n∧e 0=.pp 0 g 0 0 b a∧e 1=i64 (base:Nat)∧e 4=.rf 3 0 0 0∧s=m1.objs g b a++[zeroS]∧SEv n1 (.search base) m1 m' r f)
  ⟨_,_,_,Cln.refl,m,Nat.le_refl _,rfl,rfl,rfl,rfl,h⟩ ?_
 clear h
 rintro n1 e s ⟨m1,hn1,h0,h1,h4,rfl,hb⟩
 cases hb with
 | stop hst =>
  unfold Smt.objs zeroS
  by_cases ht:base < m'.top
  ·have hsp:m'.spent=true:=by
    rcases hst with h | h
    ·omega
    ·exact h
   have ht':(base:Int) < (m'.top:Int):=by omega
   simp only[zX,Nat.reduceShiftRight,Nat.reduceMod,Nat.reduceLT,Nat.reduceMul,Nat.reduceSub,Int.reduceToNat,Int.reduceNeg,Int.reduceLT,Int.reduceLE,Int.reduceEq,Nat.reduceEqDiff,Nat.reduceAdd,Nat.reduceLeDiff,reduceIte,reduceCtorEq,Nat.reduceBEq,i64,bV,iD,List.cons_append,List.nil_append,gt_iff_lt,h0,h1,h4,ht',hsp,Bool.not_true,srV,SPlace.v,SPlace.cells,SPlace.zero,capsO,SGoal.d,List.map_cons,List.map_nil]
   first | exact hM | exact⟨hM,rfl⟩
  ·have ht':¬(base:Int) < (m'.top:Int):=by omega
   simp only[zX,Nat.reduceShiftRight,Nat.reduceMod,Nat.reduceLT,Nat.reduceMul,Nat.reduceSub,Int.reduceToNat,Int.reduceNeg,Int.reduceLT,Int.reduceLE,Int.reduceEq,Nat.reduceEqDiff,Nat.reduceAdd,Nat.reduceLeDiff,reduceIte,reduceCtorEq,Nat.reduceBEq,i64,bV,iD,List.cons_append,List.nil_append,gt_iff_lt,h0,h1,h4,ht',srV,SPlace.v,SPlace.cells,SPlace.zero,capsO,SGoal.d,List.map_cons,List.map_nil]
   first | exact hM | exact⟨hM,rfl⟩
 | @pop _ k _ _ _ q _ _ hk hbt htl htm hsp hq hin =>
  have w1:IntKind.i64.wrap ((m1.top:Int) - 1)=(m1.top:Int) - 1:=w64 _ (by omega)
  have q0:(base:Int) < (m1.top:Int):=by omega
  have q1:(0:Int)≤(m1.top:Int) - 1:=by omega
  have q2:(m1.top:Int) - 1 < (m1.top:Int):=by omega
  have q3:((m1.top:Int) - 1).toNat=m1.top - 1:=by omega
  have q4:(m1.top:Int) - 1≤(m1.top:Int):=by omega
  have q9:min m1.top m1.stk.length=m1.top:=by omega
  unfold Smt.objs zeroS
  simp only[zX,Nat.reduceShiftRight,Nat.reduceMod,Nat.reduceLT,Nat.reduceMul,Nat.reduceSub,Int.reduceToNat,Int.reduceNeg,Int.reduceLT,Int.reduceLE,Int.reduceEq,Nat.reduceEqDiff,Nat.reduceAdd,Nat.reduceLeDiff,reduceIte,reduceCtorEq,Nat.reduceBEq,i64,bV,iD,List.cons_append,List.nil_append,gt_iff_lt,h0,h1,h4,q0,hsp,Bool.not_false]
  refine draw_first Cln0.reserve ?_
  refine draw_c mix [] [(12,[4],[4]),(13,[4],[4])] (by rfl) ?_
  simp only[zX,Nat.reduceShiftRight,Nat.reduceMod,Nat.reduceLT,Nat.reduceMul,Nat.reduceSub,Int.reduceToNat,Int.reduceNeg,Int.reduceLT,Int.reduceLE,Int.reduceEq,Nat.reduceEqDiff,Nat.reduceAdd,Nat.reduceLeDiff,reduceIte,reduceCtorEq,Nat.reduceBEq,i64,bV,iD,List.cons_append,List.nil_append,h0,h1,h4,w1,q1,q2,q3,q4,htl,hole,hq,Nat.zero_add,Option.map_some,SPlace.cells,List.map_cons,List.map_nil,List.length_map]
  refine draw_c mix [14] [] (by rfl) ?_
  simp only[zX,Nat.reduceShiftRight,Nat.reduceMod,Nat.reduceLT,Nat.reduceMul,Nat.reduceSub,Int.reduceToNat,Int.reduceNeg,Int.reduceLT,Int.reduceLE,Int.reduceEq,Nat.reduceEqDiff,Nat.reduceAdd,Nat.reduceLeDiff,reduceIte,reduceCtorEq,Nat.reduceBEq,i64,bV,iD,List.cons_append,List.nil_append,h0,h1,h4,w1,q1,q2,q3,q4,q9,htl,Nat.zero_add,List.length_map,List.length_take,Int.sub_zero]
  refine loop_rule (fun n2 e s=>∃(m2:Smt) (p2:SPlace) (al:Bool),n2 < n1∧e 0=.pp 0 g 0 0 b a∧e 1=i64 (base:Nat)∧e 4=.rf 3 0 0 0∧e 6=.rf 4 1 0 0∧e 7=bV al∧s=m2.objs g b a++[zeroS,pS b a p2]∧SEv n2 (.inner base p2 al) m2 m' r f)
   ⟨_,_,_,Cln.refl,{ m1 with top:=m1.top - 1 },q,true,hk,?_,?_,?_,?_,rfl,?_,hin⟩ ?_ <;> (try simp only[zU,Nat.reduceBEq,Nat.reduceShiftRight,Nat.reduceMod,Nat.reduceEqDiff,reduceIte])
  ·exact h0
  ·exact h1
  ·exact h4
  ·unfold Smt.objs zeroS pS; rw[hsp]; simp only[SPlace.cells,iD,i64,bV,List.map_cons,List.map_nil]; rfl
  clear hin h0 h1 h4 q0 q1 q2 q3 q4 q9 w1 hq hsp
  rintro n2 e s ⟨m2,p2,al,hn2,h0,h1,h4,h6,h7,rfl,hb⟩
  cases hb with
  | done hnil =>
   obtain⟨pa,pc,todo⟩:=r
   simp only at hnil
   subst hnil
   unfold Smt.objs zeroS pS
   simp only[zX,Nat.reduceShiftRight,Nat.reduceMod,Nat.reduceLT,Nat.reduceMul,Nat.reduceSub,Int.reduceToNat,Int.reduceNeg,Int.reduceLT,Int.reduceLE,Int.reduceEq,Nat.reduceEqDiff,Nat.reduceAdd,Nat.reduceLeDiff,reduceIte,reduceCtorEq,Nat.reduceBEq,i64,bV,iD,List.cons_append,List.nil_append,h0,h1,h4,h6,h7,SGoal.d,srV,SPlace.v,SPlace.cells,List.map_cons,List.map_nil]
   exact⟨⟨_,rfl⟩,hM⟩
  | @dead _ k2 _ _ _ _ _ _ hk2 hs2 =>
   unfold Smt.objs zeroS pS
   simp only[zX,Nat.reduceShiftRight,Nat.reduceMod,Nat.reduceLT,Nat.reduceMul,Nat.reduceSub,Int.reduceToNat,Int.reduceNeg,Int.reduceLT,Int.reduceLE,Int.reduceEq,Nat.reduceEqDiff,Nat.reduceAdd,Nat.reduceLeDiff,reduceIte,reduceCtorEq,Nat.reduceBEq,i64,bV,iD,List.cons_append,List.nil_append,h0,h1,h4,h6,h7,srV,SPlace.v,SPlace.cells,List.map_cons,List.map_nil]
   refine⟨k2,_,_,by omega,Cln.cut (s':=m2.objs g b a++[zeroS]) 4 (by omega) rfl ?_ [0,1,4] ?_,m2,by omega,?_,?_,?_,rfl,hs2⟩ <;> (try simp only[zU,Nat.reduceBEq,Nat.reduceShiftRight,Nat.reduceMod,Nat.reduceEqDiff,reduceIte])
   ·rw[List.all_append,sobjs_all g b a m2 4 (by omega)]; rfl
   ·simp [updE,trimE_app,refsV,i64,h0,h1,h4]
   ·exact h0
   ·exact h1
   ·exact h4
  | @move _ k1 k2 _ _ m3 _ _ p3 _ a3 _ hk1 hk2 hp hc hi =>
   have hw:=ih k1 (by omega) _ _ _ _ _ hc g b a
   have hbo:=bound_ok g b a p2.todo
   unfold STask.wp at hw
   have hs:=fun ext=>SRun.ext hw (by simp only[List.map_cons,hbo.1]; rfl) (by simp only[refsV.go,hbo.2]; rfl) ext
   obtain⟨pa,pc,todo⟩:=p2
   simp only at hp hs
   have hd:=SGoal.d_eq b a hp
   unfold Smt.objs zeroS pS at *
   simp only[i64,bV,iD,SPlace.cells,List.map_cons,List.map_nil] at hs
   simp only[zX,Nat.reduceShiftRight,Nat.reduceMod,Nat.reduceLT,Nat.reduceMul,Nat.reduceSub,Int.reduceToNat,Int.reduceNeg,Int.reduceLT,Int.reduceLE,Int.reduceEq,Nat.reduceEqDiff,Nat.reduceAdd,Nat.reduceLeDiff,reduceIte,reduceCtorEq,Nat.reduceBEq,i64,bV,iD,List.cons_append,List.nil_append,h0,h1,h4,h6,h7,hd]
   refine⟨⟨_,rfl⟩,?_⟩
   refine draw_c mix [14] [(0,[4],[]),(1,[4],[]),(5,[4],[]),(6,[4],[]),(7,[4],[]),(8,[4],[]),(9,[4],[]),(10,[4],[]),(18,[4],[4])] (by rfl) ?_
   simp only[zX,Nat.reduceShiftRight,Nat.reduceMod,Nat.reduceLT,Nat.reduceMul,Nat.reduceSub,Int.reduceToNat,Int.reduceNeg,Int.reduceLT,Int.reduceLE,Int.reduceEq,Nat.reduceEqDiff,Nat.reduceAdd,Nat.reduceLeDiff,reduceIte,reduceCtorEq,Nat.reduceBEq,i64,bV,iD,List.cons_append,List.nil_append,h0,h1,h4,h6,h7,hd]
   refine callD_of (hs _) ?_
   simp only[zX,Nat.reduceShiftRight,Nat.reduceMod,Nat.reduceLT,Nat.reduceMul,Nat.reduceSub,Int.reduceToNat,Int.reduceNeg,Int.reduceLT,Int.reduceLE,Int.reduceEq,Nat.reduceEqDiff,Nat.reduceAdd,Nat.reduceLeDiff,reduceIte,reduceCtorEq,Nat.reduceBEq,i64,bV,iD,List.cons_append,List.nil_append,h0,h1,h4,h6,h7,hd,srV,SPlace.v,SPlace.cells,List.map_cons,List.map_nil]
   refine⟨k2,_,_,by omega,Cln.refl,m3,p3,a3,by omega,?_,?_,?_,?_,rfl,rfl,hi⟩ <;> (try simp only[zU,Nat.reduceBEq,Nat.reduceShiftRight,Nat.reduceMod,Nat.reduceEqDiff,reduceIte])
   ·exact h0
   ·exact h1
   ·exact h4
   ·exact h6
theorem wp_op {g b a:Nat} {m m':Smt} {re:Re} {ext:List D} {p r:SPlace} {f:Bool} {fn:FuncId} (hfn:opFn re.op=fn) (h:SRun fn [.pp 0 g 0 0 b a,.d (reP re ext),p.v b a] g b a m m' r f):STask.wp g b a m m' r f (.op re ext p):=by
 show SRun (opFn re.op) _ g b a m m' r f
 rw[hfn]
 exact h
theorem opFn_eq {re:Re} {n:Int} (h:re.op=n):opFn re.op=opFn n:=by rw[h]
theorem sev_op {n:Nat} {re:Re} {ext:List D} {p r:SPlace} {m m':Smt} {f:Bool} (h:SEv n (.op re ext p) m m' r f):0≤re.op∧re.op≤11:=by
 cases h <;> omega
theorem sev_wp:∀(n:Nat) (task:STask) (m m':Smt) (r:SPlace) (f:Bool),SEv n task m m' r f→∀g b a,STask.wp g b a m m' r f task:=by
 intro n
 induction n using Nat.strongRecOn with
 | ind n ih0 =>
 have ih:SIH n:=fun j hj task m m' r f h g b a=>ih0 j hj task m m' r f h g b a
 intro task m m' r f h g b a
 cases task with
 | search base=>exact search_okS ih g b a h
 | inner base p alive=>exact trivial
 | behind re kid p j=>exact trivial
 | first p =>
  cases h with
  | first hk ht hm h h1 h2=>exact first_okS g b a ht hm (ih _ hk _ _ _ _ _ h g b a) h1 h2
 | call p =>
  cases h with
  | treeOut hg ho hf=>exact treeOut_okS g b a hg ho hf
  | tree hk hg ho hf h =>
   have hop:=sev_op h
   exact tree_okS g b a hg ho hf hop.1 hop.2 (ih _ hk _ _ _ _ _ h g b a)
  | rep hk ho h=>exact rep_okS g b a ho (ih _ hk _ _ _ _ _ h g b a)
  | roundOut hg hf=>exact roundOut_okS g b a hg hf
  | roundMin hg hk h0 h1 hf hm=>exact roundMin_okS g b a hg hk h0 h1 hf hm
  | roundMax hg hk hf hm hx hx2=>exact roundMax_okS g b a hg hk hf hm hx hx2
  | roundLazy hg hk h0 h1 hf hm hx ho=>exact roundLazy_okS g b a hg hk h0 h1 hf hm hx ho
  | roundMore hg hk h0 h1 hf hm hx ho=>exact roundMore_okS g b a hg hk h0 h1 hf hm hx ho
  | stay=>exact stay_okS g b a
  | moved hj hy h=>exact moved_okS g b a hy (ih _ hj _ _ _ _ _ h g b a)
  | fin hl h0 h1=>exact fin_wpS g b a hl h0 h1
  | here=>exact here_wpS g b a
 | op re ext p =>
  cases h with
  | empty ho=>exact wp_op (opFn_eq ho) (empty_okS g b a m re ext _)
  | setIn ho hg hs h hi =>
   have:=set_inS g b a m re ext p hs hg.a0 h hg.t
   rw[if_pos hi] at this
   exact wp_op (opFn_eq ho) this
  | setNo ho hg hs h hi =>
   have:=set_inS g b a m re ext p hs hg.a0 h hg.t
   rw[if_neg (by rw[hi]; exact Bool.false_ne_true)] at this
   exact wp_op (opFn_eq ho) this
  | setOut ho h=>exact wp_op (opFn_eq ho) (set_outS g b a m re ext p h)
  | cat ho hk=>exact wp_op (opFn_eq ho) (cat_okS g b a m re ext p hk)
  | alt ho hk hkk hg=>exact wp_op (opFn_eq ho) (alt_okS g b a m re ext p hk hkk hg.top hg.tmax)
  | repP hk ho hm h=>exact wp_op (opFn_eq ho) (repP_okS g b a hm (ih _ hk _ _ _ _ _ h g b a))
  | repN ho hm=>exact wp_op (opFn_eq ho) (repN_okS g b a m re ext _ hm)
  | capture ho hk=>exact wp_op (opFn_eq ho) (capture_okS g b a m re ext p hk)
  | refNo ho hg hc hl hn hx hb hq=>exact wp_op (opFn_eq ho) (ref_noS g b a m re ext p hg hc hl hn hx hb hq)
  | refYes ho hg hc hl hn hx h12 h2 hq=>exact wp_op (opFn_eq ho) (ref_yesS g b a m re ext p hg hc hl hn hx h12 h2 hq)
  | ahead hk ho hkk h=>exact wp_op (opFn_eq ho) (ahead_okS g b a ext hkk (ih _ hk _ _ _ _ _ h g b a))
  | behind hk ho hkk hp hp1 h=>exact wp_op (opFn_eq ho) (behind_okS ih hk g b a ext hkk hp hp1 h)
  | atom hk ho hkk h=>exact wp_op (opFn_eq ho) (atom_okS g b a ext hkk (ih _ hk _ _ _ _ _ h g b a))
  | cond ho hkk hc hl hn hx=>exact wp_op (opFn_eq ho) (cond_okS g b a m re ext p hkk hn hc hx hl)
  | assert ho hg h0 h1=>exact wp_op (opFn_eq ho) (assert_okS g b a m re ext _ hg h0 h1)
end Go.Proofs.Ytpppfpaalcbggaa
