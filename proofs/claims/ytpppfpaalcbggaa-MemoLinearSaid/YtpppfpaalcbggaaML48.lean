/- A part of the proof (S36 S37). -/
import Derived.Test.YtpppfpaalcbggaaML47
set_option linter.unusedSimpArgs false
set_option linter.unusedVariables false
set_option maxRecDepth 100000
set_option maxHeartbeats 80000000
namespace Go.Proofs.Ytpppfpaalcbggaa
open Go.VL Go.Proofs.Try
def allErrS (p:Pat) (t:List Int) (at_ most fuel:Int):Int:=if valid7 p t fuel≠0 then valid7 p t fuel else if most < 1 then 1 else if at_ < 0∨(t.length:Int) < at_ then 5 else 0
theorem semAll_err (p:Pat) (t:List Int) (at_ most fuel:Int) (hf:p.re.fine=true) (ht:t.length≤1000000000) (hE:allErrS p t at_ most fuel≠0) :
  PureOK prog 16 [patV p,.d (intsD t),i64 at_,i64 most,i64 fuel] (.tu [.d (.sl []),i64 0,i64 (allErrS p t at_ most fuel)]):=by
 have hck:=check_okS [p] t fuel (by simp) (fun q hq=>by rw[List.mem_singleton.1 hq]; exact hf) ht
 rw[check_one] at hck
 have hpc:patC p=p.re.cells++[iD p.caps,bD p.runes]:=rfl
 unfold allErrS at *
 generalize valid7 p t fuel=v at *
 simp only[List.map_cons,List.map_nil,hpc,Re.cells_eq p.re,List.cons_append,List.nil_append,i64,iD,bD] at hck
 refine fn_ok func16 rfl ntmps16 results16 rfl 0 261183 (by simp) (by simp) ?_
 simp only[zX,Nat.reduceShiftRight,Nat.reduceMod,Nat.reduceLT,Nat.reduceMul,Nat.reduceSub,Int.reduceToNat,Int.reduceNeg,Int.reduceLT,Int.reduceLE,Int.reduceEq,Nat.reduceEqDiff,Nat.reduceAdd,Nat.reduceLeDiff,reduceIte,reduceCtorEq,Nat.reduceBEq,i64,patV,Re.cells_eq p.re,bV,iD,bD,List.map_cons,List.map_nil,List.cons_append,List.nil_append]
 refine call_give [] (by simp [killO,frzV.go,frzV,frzD]; rfl) ?_
 refine call_pure hck rfl rfl ?_
 by_cases c0:v=0
 ·subst c0
  simp only[ne_eq,not_true_eq_false,if_false] at hE ⊢
  by_cases c1:most < 1
  ·rw[if_pos c1]
   simp only[zX,Nat.reduceShiftRight,Nat.reduceMod,Nat.reduceLT,Nat.reduceMul,Nat.reduceSub,Int.reduceToNat,Int.reduceNeg,Int.reduceLT,Int.reduceLE,Int.reduceEq,Nat.reduceEqDiff,Nat.reduceAdd,Nat.reduceLeDiff,reduceIte,reduceCtorEq,Nat.reduceBEq,i64,patV,bV,iD,bD,ne_eq,not_true_eq_false,c1,intsD,gt_iff_lt,List.length_map]
  ·rw[if_neg c1] at hE ⊢
   by_cases c2:at_ < 0
   ·rw[if_pos (.inl c2)]
    simp only[zX,Nat.reduceShiftRight,Nat.reduceMod,Nat.reduceLT,Nat.reduceMul,Nat.reduceSub,Int.reduceToNat,Int.reduceNeg,Int.reduceLT,Int.reduceLE,Int.reduceEq,Nat.reduceEqDiff,Nat.reduceAdd,Nat.reduceLeDiff,reduceIte,reduceCtorEq,Nat.reduceBEq,i64,patV,bV,iD,bD,ne_eq,not_true_eq_false,c1,c2,intsD,gt_iff_lt,List.length_map]
   ·by_cases c3:(t.length:Int) < at_
    ·rw[if_pos (.inr c3)]
     simp only[zX,Nat.reduceShiftRight,Nat.reduceMod,Nat.reduceLT,Nat.reduceMul,Nat.reduceSub,Int.reduceToNat,Int.reduceNeg,Int.reduceLT,Int.reduceLE,Int.reduceEq,Nat.reduceEqDiff,Nat.reduceAdd,Nat.reduceLeDiff,reduceIte,reduceCtorEq,Nat.reduceBEq,i64,patV,bV,iD,bD,ne_eq,not_true_eq_false,c1,c2,c3,intsD,gt_iff_lt,List.length_map]
    ·rw[if_neg (by omega)] at hE
     exact absurd rfl hE
 ·rw[if_pos c0]
  simp only[zX,Nat.reduceShiftRight,Nat.reduceMod,Nat.reduceLT,Nat.reduceMul,Nat.reduceSub,Int.reduceToNat,Int.reduceNeg,Int.reduceLT,Int.reduceLE,Int.reduceEq,Nat.reduceEqDiff,Nat.reduceAdd,Nat.reduceLeDiff,reduceIte,reduceCtorEq,Nat.reduceBEq,i64,patV,bV,iD,bD,ne_eq,c0,not_false_eq_true]
theorem vS_of_ok {re:Re} {caps top:Int} (h:nodeOk re caps top=true) (hk:re.kids.length≤1000):vS caps re=true:=by
 have hsh:=of_decide_eq_true (shape_of_ok h (by omega))
 obtain⟨s1,s2,s3,s4⟩:=hsh
 obtain⟨h1,h2,h3,h4,h5⟩:=nodeOk_iff.1 h
 refine decide_eq_true ⟨fun ho=>?_,s2,s3,hk,fun ho=>?_,fun ho=>?_,fun ho=>?_,h1.1,h1.2.1⟩
 ·rcases ho with ho | ho
  ·intro hn
   have:=h1.2.2.1
   rw[hn,ho] at this
   simp [kidsR] at this
  ·exact s1 ho
 ·rw[if_pos ho] at h4; exact h4
 ·rw[if_neg (by omega),if_pos ho] at h4; exact h4
 ·rw[if_pos ho] at h3; exact h3.2.2.1
theorem vS_every {caps top:Int} (re:Re) (h:re.whole caps top=true) (hs:re.size≤1000):re.every (vS caps)=true:=by
 revert h hs
 refine Re.ind (Q:=fun re=>re.whole caps top=true→re.size≤1000→re.every (vS caps)=true) (fun re ih h hs=>?_) re
 obtain⟨a1,a2⟩:=(Re.every_iff re).1 h
 have:=Re.len_le re.kids
 have:=Re.size_eq re
 exact(Re.every_iff re).2 ⟨vS_of_ok a1 (by omega),fun k hk=>ih k hk (a2 k hk) (by have:=Re.size_kid hk; omega)⟩
theorem cap0_pad {p:Pat} (h0:0≤p.caps) (h9:p.caps≤9):padC (cap0 p)=List.replicate 9 (-1,-1):=by
 unfold padC cap0
 rw[List.length_replicate,List.replicate_append_replicate]
 congr 1
 omega
theorem sem_con {p:Pat} {t:List Int} {at_ most fuel s:Int} {b:Bool} {x:Sst} {k:Nat} (hp:validR p=0) (ht:t.length≤65536) (a0:0≤at_) (a1:at_≤t.length) (hm:0≤most→0 < most) (hs0:0≤s) (hs1:s≤fuel)
  (hx:evR t fuel k most (.run (.mk 0 p.re 0 0 .nil) at_ (cap0 p)) ⟨s,false,[],[]⟩=some (b,x)) (hB:x.steps≤100000000) {m:Smt} (hmp:m.p=p) (hmt:m.t=t) (hmf:m.fuel=fuel) (hms:m.steps=s) (hsp:m.spent=false) (hst:StkS m []) :
  ConS t fuel p.caps.toNat 0 [] most at_ m ⟨at_,some (List.replicate 9 (-1,-1)),.tree p.re [iD p.caps,bD p.runes] .nil⟩ true ⟨s,false,[],[]⟩ b x:=by
 obtain⟨k1,k2,k3,k4,k5⟩:=validR_spec hp
 have hcl:(cap0 p).length=p.caps.toNat:=by unfold cap0; rw[List.length_replicate]
 have hnc:((p.caps.toNat:Nat):Int)=p.caps:=by omega
 have hsim:=simS (t:=t) (F:=fuel) (nc:=p.caps.toNat) ⟨by omega,by omega⟩ (evI_of k _ _ _ _ _ hx) hB 0 [] ⟨rfl,hs0,hs1,fun h=>by have:=hm h; simpa using this,Nat.le_refl _,a0,a1,⟨by show (cap0 p).length≤_; omega,fun q hq=>.inl (List.eq_of_mem_replicate hq)⟩,hcl⟩
  m (.tree p.re [iD p.caps,bD p.runes] .nil) ⟨hmt,hmf,hst,hms,hsp,by simpa using by omega⟩ (.tree .nil) ⟨fun _=>by rw[hnc]; exact vS_every _ k5 (by omega),fun h=>by omega,fun h=>by omega,fun h=>by omega,fun h=>by omega,trivial⟩
 rw[cap0_pad k3 k4] at hsim
 exact hsim
theorem sem_law {p:Pat} {t:List Int} {at_ most fuel:Int} (hv:valid7 p t fuel=0) (a0:0≤at_) (a1:at_≤t.length) {n:Nat} (hn:1≤n) (hmost:most=n∨(most < 0∧((searchX p t at_ most fuel).2.ends.length:Int) + 2≤n)) (hB:(searchX p t at_ most fuel).2.steps≤100000000) :
  ∃L m',NextsS n ((freshS p t fuel).begin at_) L m'∧L.length≤(searchX p t at_ most fuel).2.ends.length + 1∧(allE p t at_ most fuel=0→m'.spent=false∧m'.steps=allN p t at_ most fuel∧L.map (matchC p.caps.toNat at_)=(allM p t at_ most fuel).map (matchD at_))∧(allE p t at_ most fuel≠0→allE p t at_ most fuel=11∧m'.spent=true)∧(most < 0→L.length < n):=by
 obtain⟨h1,h2,h3,h4,h5⟩:=valid7_spec hv
 obtain⟨k1,k2,k3,k4,k5⟩:=validR_spec h1
 obtain⟨k,e1,_⟩:=search_ends (most:=most) hv a0 a1
 have hst:StkS ((freshS p t fuel).begin at_) ([]++[(freshS p t fuel).startP at_]):=⟨rfl,rfl⟩
 have hcon:=sem_con (s:=0) h1 h2 a0 a1 (fun h=>by omega) (Int.le_refl _) h4 e1 hB (m:=((freshS p t fuel).begin at_).pop) rfl rfl rfl rfl rfl hst.last.2
 obtain⟨L,m',q1,q2,q3,q4,q5,q6⟩:=con_nexts (by omega) (by omega) hn hmost hst rfl hcon
 have hE:allE p t at_ most fuel=if (searchX p t at_ most fuel).2.empty=true then 11 else 0:=by
  unfold allE; rw[if_neg (by rw[hv]; simp),if_neg (by omega)]
 refine⟨L,m',q1,q3,fun hE0=>?_,fun hE1=>?_,q6⟩
 ·have he:(searchX p t at_ most fuel).2.empty=false:=by
   cases h:(searchX p t at_ most fuel).2.empty with
   | false=>rfl
   | true=>rw[hE,h,if_pos rfl] at hE0; omega
  obtain⟨r1,r2,r3,r4,r5,r6⟩:=q4 he
  refine⟨r1,by unfold allN; rw[if_pos hE0]; exact r2,?_⟩
  unfold allM
  rw[if_pos hE0,r4,List.map_map]
  refine List.map_congr_left fun y hy=>?_
  obtain⟨e,d⟩:=y
  have hd:=r6 d (List.of_mem_zip hy).2
  simp only[Function.comp_apply,padP,matchC,matchD]
  congr 4
  unfold padC
  rw[← hd,List.take_left']
  rfl
 ·have he:(searchX p t at_ most fuel).2.empty=true:=by
   cases h:(searchX p t at_ most fuel).2.empty with
   | true=>rfl
   | false=>rw[hE,h,if_neg Bool.false_ne_true] at hE1; exact absurd rfl hE1
  exact⟨by rw[hE,if_pos he],(q5 he).1⟩
theorem semAll_ok (p:Pat) (t:List Int) (at_ most fuel:Int) (hf:p.re.fine=true) (ht:t.length≤1000000000) (hm:1≤most) (hB:valid7 p t fuel=0→0≤at_→at_≤t.length→(searchX p t at_ most fuel).2.steps≤100000000) :
  PureOK prog 16 [patV p,.d (intsD t),i64 at_,i64 most,i64 fuel] (.tu [.d (.sl ((allM p t at_ most fuel).map (matchD at_))),i64 (allN p t at_ most fuel),i64 (allE p t at_ most fuel)]):=by
 by_cases hE0:allErrS p t at_ most fuel=0
 ·have hv:valid7 p t fuel=0:=by
   apply Classical.byContradiction; intro hc
   unfold allErrS at hE0; rw[if_pos hc] at hE0; exact hc hE0
  have hr:¬(at_ < 0∨(t.length:Int) < at_):=by
   intro hc
   unfold allErrS at hE0; rw[if_neg (by rw[hv]; simp),if_neg (by omega),if_pos hc] at hE0; omega
  obtain⟨h1,h2,h3,h4,h5⟩:=valid7_spec hv
  obtain⟨k1,k2,k3,k4,k5⟩:=validR_spec h1
  obtain⟨_,_,hpost⟩:=search_ends (most:=most) hv (at_:=at_) (by omega) (by omega)
  obtain⟨new,newc,z1,_,_,z4,_,_⟩:=hpost.more
  have hB:=hB hv (by omega) (by omega)
  have hends:(searchX p t at_ most fuel).2.ends.length≤200000000:=by
   rw[z1]
   simp only[List.nil_append]
   have:(0:Int)≤(⟨0,false,[],[]⟩:Sst).steps:=Int.le_refl _
   simp only at z4
   omega
  obtain⟨L,m',q1,q2,q3,q4,_⟩:=sem_law (most:=most) (n:=most.toNat) hv (by omega) (by omega) (by omega) (.inl (by omega)) hB
  have hrun:=semAll_run p t at_ most fuel hf ht hv hm (by omega) (by omega) k3 k4 q1 (by omega)
  by_cases hE:allE p t at_ most fuel=0
  ·obtain⟨r1,r2,r3⟩:=q3 hE
   rw[r1,if_neg Bool.false_ne_true,r2,r3] at hrun
   rw[hE]
   exact hrun
  ·obtain⟨r1,r2⟩:=q4 hE
   rw[r2,if_pos rfl] at hrun
   have hM:allM p t at_ most fuel=[]:=by unfold allM; rw[if_neg hE]
   have hN:allN p t at_ most fuel=0:=by unfold allN; rw[if_neg hE]
   rw[hM,hN,r1]
   exact hrun
 ·have herr:=semAll_err p t at_ most fuel hf ht hE0
  have hE:allE p t at_ most fuel=allErrS p t at_ most fuel:=by
   unfold allErrS at *
   unfold allE
   have hm1:¬most < 1:=by omega
   by_cases hv:valid7 p t fuel=0
   ·by_cases hr:at_ < 0∨(t.length:Int) < at_
    ·simp only[hv,ne_eq,not_true_eq_false,if_false,hm1,hr,if_true]
    ·exfalso
     simp only[hv,ne_eq,not_true_eq_false,if_false,hm1,hr] at hE0
   ·rw[if_pos hv,if_pos hv]
  have hM:allM p t at_ most fuel=[]:=by unfold allM; rw[if_neg (by rw[hE]; exact hE0)]
  have hN:allN p t at_ most fuel=0:=by unfold allN; rw[if_neg (by rw[hE]; exact hE0)]
  rw[hM,hN,hE]
  exact herr
end Go.Proofs.Ytpppfpaalcbggaa
