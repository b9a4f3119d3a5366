/- A part of the proof (K96). -/
import Derived.Test.YtdofoappodmcoaaKP47
set_option linter.unusedSimpArgs false
set_option linter.unusedVariables false
set_option maxRecDepth 100000
set_option maxHeartbeats 80000000
namespace Go.Proofs.Ytdofoappodmcoaa
open Go.VL Go.Proofs.Try
theorem paths_ok (g:Prg) (hg:g.good) (hs:g.ins.length≤1000000000) (hl:∀x∈g.ins,x.set.length≤1000000000) (hv:prgE g=0) (t:List Int) (ht:t.length≤65536) (a:Int) (h0:0≤a) (h1:a≤t.length) (k:Nat) (hk:k < 1048576) (r:Option (Int × List Int))
  (hS:SOut g t [⟨0,a,0,List.replicate 18 (-1)⟩] k r) :
  PureOK prog 28 [prgV g,.d (intsD t),i64 a,i64 1,i64 1048576] (.tu [.d (.sl (onePathD g a r)),i64 0]):=by
 have hchk:=pathsCheck_ok g hs hl hv t ht a h0 h1
 simp only[prgV_eq,i64,iD,bD,bV] at hchk
 refine fn_ok func28 rfl ntmps28 results28 rfl 0 77371252455336271478258751 (by simp) (by simp) ?_
 simp only[zX,Nat.reduceShiftRight,Nat.reduceMod,Nat.reduceLT,Nat.reduceMul,Nat.reduceSub,Int.reduceToNat,Int.reduceNeg,Int.reduceLT,Int.reduceLE,Int.reduceEq,Nat.reduceEqDiff,Nat.reduceAdd,Nat.reduceLeDiff,reduceIte,reduceCtorEq,Nat.reduceBEq,i64,bV,iD,bD,prgV_eq,codeWp_scope,codeWp_label,Qscope_normal,Qscope_exit,Qscope_ret]
 refine call_pure hchk rfl rfl ?_
 simp only[zX,Nat.reduceShiftRight,Nat.reduceMod,Nat.reduceLT,Nat.reduceMul,Nat.reduceSub,Int.reduceToNat,Int.reduceNeg,Int.reduceLT,Int.reduceLE,Int.reduceEq,Nat.reduceEqDiff,Nat.reduceAdd,Nat.reduceLeDiff,reduceIte,reduceCtorEq,Nat.reduceBEq,i64,bV,iD,bD,ne_eq,not_true_eq_false,codeWp_scope,codeWp_label,Qscope_normal,Qscope_exit,Qscope_ret]
 refine loop_rule (fun n e s=>∃j:Nat,n=18 - j∧j≤18∧e 1=.d (intsD t)∧e 2=i64 a∧e 3=i64 1∧e 4=i64 1048576∧e 5=.rf 0 0 0 0∧e 13=.rf 1 0 0 0∧e 32=i64 j∧s=[prgO g,regO true (negs j)])
  ⟨_,_,_,Cln.refl,0,rfl,by omega,rfl,rfl,rfl,rfl,rfl,rfl,rfl,rfl⟩ ?_
 rintro n e s ⟨j,rfl,hj,h1',h2,h3,h4,h5,h13,h32,rfl⟩
 rcases Nat.lt_or_ge j 18 with hlt | hge
 ·have hlt':(j:Int) < 18:=by omega
  have hn:=negs_len j (by omega)
  have hs1:=negs_set j hlt
  simp only[zX,Nat.reduceShiftRight,Nat.reduceMod,Nat.reduceLT,Nat.reduceMul,Nat.reduceSub,Int.reduceToNat,Int.reduceNeg,Int.reduceLT,Int.reduceLE,Int.reduceEq,Nat.reduceEqDiff,Nat.reduceAdd,Nat.reduceLeDiff,reduceIte,reduceCtorEq,Nat.reduceBEq,i64,bV,iD,bD,prgO,regO,h1',h2,h3,h4,h5,h13,h32,hlt',hn,List.length_map,codeWp_scope,codeWp_label,Qscope_normal,Qscope_exit,Qscope_ret]
  refine⟨hlt,by omega,18 - (j + 1),_,_,by omega,Cln.refl,j + 1,rfl,hlt,?_,?_,?_,?_,?_,?_,?_,?_⟩ <;> (try simp only[zU,Nat.reduceBEq,Nat.reduceShiftRight,Nat.reduceMod,Nat.reduceEqDiff,reduceIte])
  ·exact h1'
  ·exact h2
  ·exact h3
  ·exact h4
  ·exact h5
  ·exact h13
  ·rw[w64 _ (by omega)]; rfl
  ·rw[cell_set (by rw[List.length_map,hn]; exact hlt),← hs1,List.map_set]; rfl
 ·have hlt':¬(j:Int) < 18:=by omega
  simp only[zX,Nat.reduceShiftRight,Nat.reduceMod,Nat.reduceLT,Nat.reduceMul,Nat.reduceSub,Int.reduceToNat,Int.reduceNeg,Int.reduceLT,Int.reduceLE,Int.reduceEq,Nat.reduceEqDiff,Nat.reduceAdd,Nat.reduceLeDiff,reduceIte,reduceCtorEq,Nat.reduceBEq,i64,bV,iD,bD,prgO,regO,h1',h2,h3,h4,h5,h13,h32,hlt',List.length_map,codeWp_scope,codeWp_label,Qscope_normal,Qscope_exit,Qscope_ret,Option.bind]
  obtain rfl:j=18:=by omega
  refine loop_rule (OutI g t a r)
   ⟨k + 1,_,_,(Cln.kill [1]).trans (Cln.dropK 3 (by omega) [5,16] [1,2,3,4,15] (by simp [updE,trimE_app,refsV,h1',h2,h3,h4,i64])),[⟨0,a,0,List.replicate 18 (-1)⟩],[],0,k,1048576,?_,?_,?_,?_,by omega,by simp,?_,?_,?_,?_,.inl ⟨rfl,rfl,hS⟩⟩ ?_
  ·simpa [updE,trimE_app] using h1'
  ·simpa [updE,trimE_app] using h2
  ·simpa [updE,trimE_app] using h3
  ·simpa [updE,trimE_app] using h4
  ·simp [cleanE,updE,trimE_app,h5]; rfl
  ·rfl
  ·rfl
  ·intro x hx; rw[List.mem_singleton.1 hx]; exact⟨rfl,h0,h1⟩
  clear hS hchk h1' h2 h3 h4 h5 h13 h32 hlt' hge hj
  rintro n e s ⟨R,J,gg,k',F,h1',h2,h3,h4,hkF,hF,h5,h16,rfl,hR,hcase⟩
  rcases hcase with ⟨h15,rfl,hS⟩ | ⟨h15,rfl,hms⟩
  case inr =>
   have z2:((1:Nat):Int)=1:=rfl
   by_cases hc:(0:Int) < (R.length:Int)
   ·simp only[zX,Nat.reduceShiftRight,Nat.reduceMod,Nat.reduceLT,Nat.reduceMul,Nat.reduceSub,Int.reduceToNat,Int.reduceNeg,Int.reduceLT,Int.reduceLE,Int.reduceEq,Nat.reduceEqDiff,Nat.reduceAdd,Nat.reduceLeDiff,reduceIte,reduceCtorEq,Nat.reduceBEq,i64,bV,iD,bD,prgO,stO,h1',h2,h3,h4,h5,h15,h16,hc,hms,z2,Nat.zero_add,gt_iff_lt,ge_iff_le,List.length_map,codeWp_scope,codeWp_label,Qscope_normal,Qscope_exit,Qscope_ret]
   ·simp only[zX,Nat.reduceShiftRight,Nat.reduceMod,Nat.reduceLT,Nat.reduceMul,Nat.reduceSub,Int.reduceToNat,Int.reduceNeg,Int.reduceLT,Int.reduceLE,Int.reduceEq,Nat.reduceEqDiff,Nat.reduceAdd,Nat.reduceLeDiff,reduceIte,reduceCtorEq,Nat.reduceBEq,i64,bV,iD,bD,prgO,stO,h1',h2,h3,h4,h5,h15,h16,hc,hms,z2,Nat.zero_add,gt_iff_lt,ge_iff_le,List.length_map,codeWp_scope,codeWp_label,Qscope_normal,Qscope_exit,Qscope_ret]
  have z1:¬(((0:Nat):Int)=1):=by decide
  cases R with
  | nil =>
   have hr:r=none:=by cases hS; rfl
   subst hr
   rw[List.length_nil] at h16
   have z3:¬((0:Int) < ((0:Nat):Int)):=by decide
   simp only[zX,Nat.reduceShiftRight,Nat.reduceMod,Nat.reduceLT,Nat.reduceMul,Nat.reduceSub,Int.reduceToNat,Int.reduceNeg,Int.reduceLT,Int.reduceLE,Int.reduceEq,Nat.reduceEqDiff,Nat.reduceAdd,Nat.reduceLeDiff,reduceIte,reduceCtorEq,Nat.reduceBEq,i64,bV,iD,bD,prgO,stO,h1',h2,h3,h4,h5,h15,h16,z1,z3,Nat.zero_add,gt_iff_lt,ge_iff_le,List.length_map,codeWp_scope,codeWp_label,Qscope_normal,Qscope_exit,Qscope_ret]
   rfl
  | cons w R =>
   have hl':(0:Int) < ((R.length + 1:Nat):Int):=by omega
   rw[List.length_cons] at hF
   have hw1:IntKind.i64.wrap (((R.length + 1:Nat):Int) - 1)=(R.length:Int):=by
    rw[w64 _ (by omega)]; omega
   have hel:((w::R).reverse++J)[R.length]?=some w:=by simp
   have hle:R.length + 1≤((w::R).reverse++J).length:=by simp
   have hE:(w::R).reverse++J=R.reverse++(w::J):=by simp
   simp only[List.length_cons] at h16
   rw[hE] at hel hle ⊢
   generalize hJ:w::J=J' at *
   generalize hEE:R.reverse++J'=E at *
   simp only[zX,Nat.reduceShiftRight,Nat.reduceMod,Nat.reduceLT,Nat.reduceMul,Nat.reduceSub,Int.reduceToNat,Int.reduceNeg,Int.reduceLT,Int.reduceLE,Int.reduceEq,Nat.reduceEqDiff,Nat.reduceAdd,Nat.reduceLeDiff,reduceIte,reduceCtorEq,Nat.reduceBEq,i64,bV,iD,bD,prgO,stO,wyC,h1',h2,h3,h4,h5,h15,h16,hl',hw1,hel,z1,Nat.zero_add,hle,List.take_succ_cons,List.take_zero,List.drop_succ_cons,List.drop_zero,Int.sub_zero,Int.toNat_natCast,gt_iff_lt,List.length_map,codeWp_scope,codeWp_label,Qscope_normal,Qscope_exit,Qscope_ret]
   refine⟨by omega,by rw[List.length_take,List.length_map]; omega,?_⟩
   clear hel hle hE hJ hl' hw1
   subst hEE
   refine loop_rule (InI g t a r k')
    ⟨k',_,_,Cln.refl,w,R,J',gg,F,?_,?_,?_,?_,hkF,by omega,?_,?_,?_,?_,?_,hR,Nat.le_refl _,hS⟩ ?_
   ·exact h1'
   ·exact h2
   ·exact h3
   ·exact h4
   ·exact h5
   ·exact h15
   ·rfl
   ·rfl
   ·rfl
   clear hS hR hkF hF h1' h2 h3 h4 h5 h15 h16
   clear w R J J' gg F
   rintro n e s ⟨w,R,J,gg,F,h1',h2,h3,h4,hnF,hF,h5,h15,h16,h17,rfl,hR,hnk,hS⟩
   obtain⟨hi0,hi1,hp0,hp1,hn1⟩:=hS.top
   have hF0:¬((F:Int)=0):=by omega
   have hF1:IntKind.i64.wrap ((F:Int) - 1)=((F - 1:Nat):Int):=by rw[w64 _ (by omega)]; omega
   have hX:=insAt_get hp0 hp1
   have hop:=hg.ops _ (List.mem_of_getElem? hX)
   have hgl:=hg.len1
   have hpl:w.pc < (g.ins.length:Int):=hp1
   have hw1:IntKind.i64.wrap (w.pc + 1)=w.pc + 1:=w64 _ (by omega)
   simp only[zX,Nat.reduceShiftRight,Nat.reduceMod,Nat.reduceLT,Nat.reduceMul,Nat.reduceSub,Int.reduceToNat,Int.reduceNeg,Int.reduceLT,Int.reduceLE,Int.reduceEq,Nat.reduceEqDiff,Nat.reduceAdd,Nat.reduceLeDiff,reduceIte,reduceCtorEq,Nat.reduceBEq,i64,bV,iD,bD,prgO,h1',h2,h3,h4,h5,h15,h16,h17,z1,hF0,hF1,Nat.zero_add,gt_iff_lt,List.length_map,codeWp_scope,codeWp_label,Qscope_normal,Qscope_exit,Qscope_ret]
   refine call_circ hi0 hi1 hs ?_
   have hops:(insAt g w.pc).op=0∨(insAt g w.pc).op=1∨(insAt g w.pc).op=2∨(insAt g w.pc).op=3∨(insAt g w.pc).op=4∨(insAt g w.pc).op=5:=by omega
   rcases hops with ho | ho | ho | ho | ho | ho
   ·simp only[zX,Nat.reduceShiftRight,Nat.reduceMod,Nat.reduceLT,Nat.reduceMul,Nat.reduceSub,Int.reduceToNat,Int.reduceNeg,Int.reduceLT,Int.reduceLE,Int.reduceEq,Nat.reduceEqDiff,Nat.reduceAdd,Nat.reduceLeDiff,reduceIte,reduceCtorEq,Nat.reduceBEq,i64,bV,iD,bD,prgO,wayO,Ins.cells,hX,hp0,hpl,hw1,ho,h1',h2,h3,h4,h5,h15,h16,h17,z1,hF0,hF1,Nat.zero_add,gt_iff_lt,List.length_map,codeWp_scope,codeWp_label,Qscope_normal,Qscope_exit,Qscope_ret]
    refine call_match hg.caps0 hg.caps1 (hR w (by simp)).1 ?_
    simp only[zX,Nat.reduceShiftRight,Nat.reduceMod,Nat.reduceLT,Nat.reduceMul,Nat.reduceSub,Int.reduceToNat,Int.reduceNeg,Int.reduceLT,Int.reduceLE,Int.reduceEq,Nat.reduceEqDiff,Nat.reduceAdd,Nat.reduceLeDiff,reduceIte,reduceCtorEq,Nat.reduceBEq,i64,bV,iD,bD,prgO,wayO,Ins.cells,hX,hp0,hpl,hw1,ho,h1',h2,h3,h4,h5,h15,h16,h17,z1,hF0,hF1,Nat.zero_add,gt_iff_lt,List.length_map,codeWp_scope,codeWp_label,Qscope_normal,Qscope_exit,Qscope_ret]
    have hr:=hS.done ho
    refine⟨fun e he=>by rw[List.mem_singleton.1 he]; rfl,fun e he=>(by cases he),?_⟩
    refine out_done (R:=R) (J:=J) (gg:=gg) (F:=F - 1) ?_ ?_ ?_ ?_ ?_ ?_ ?_ rfl (by omega) (fun x hx=>hR x (by simp [hx])) hr (by omega) <;> (try simp only[zU,Nat.reduceBEq,Nat.reduceShiftRight,Nat.reduceMod,Nat.reduceEqDiff,reduceIte])
    ·exact h1'
    ·exact h2
    ·exact h3
    ·rfl
    ·exact h5
    ·exact h16
   ·have hfit:=hR w (by simp)
    have hfw:=hfit.2.1
    have hset:=hl _ (List.mem_of_getElem? hX)
    have hset2:=hg.sets _ (List.mem_of_getElem? hX)
    by_cases c1:w.a < t.length
    ·have hta:t[w.a.toNat]?=some (tAt t w.a):=getD_get (by omega)
     have hhas:=shas_ok (insAt g w.pc).set (tAt t w.a) (by omega)
     have c1':¬((t.length:Int)≤w.a):=by omega
     have hw2:IntKind.i64.wrap (w.a + 1)=w.a + 1:=w64 _ (by omega)
     cases c2:hasB (insAt g w.pc).set (tAt t w.a) with
     | true =>
      obtain⟨k2,hk2,hS2⟩:=hS.sym hg ho c1 c2
      rw[c2] at hhas
      simp only[i64,bV,iD,bD] at hhas
      simp only[zX,Nat.reduceShiftRight,Nat.reduceMod,Nat.reduceLT,Nat.reduceMul,Nat.reduceSub,Int.reduceToNat,Int.reduceNeg,Int.reduceLT,Int.reduceLE,Int.reduceEq,Nat.reduceEqDiff,Nat.reduceAdd,Nat.reduceLeDiff,reduceIte,reduceCtorEq,Nat.reduceBEq,i64,bV,iD,bD,prgO,wayO,Ins.cells,hX,hp0,hpl,hw1,ho,h1',h2,h3,h4,h5,h15,h16,h17,z1,hF0,hF1,Nat.zero_add,gt_iff_lt,ge_iff_le,List.length_map,intsD,codeWp_scope,codeWp_label,Qscope_normal,Qscope_exit,Qscope_ret]
      refine draw_c mix [] [] (by rfl) ?_
      simp only[zX,Nat.reduceShiftRight,Nat.reduceMod,Nat.reduceLT,Nat.reduceMul,Nat.reduceSub,Int.reduceToNat,Int.reduceNeg,Int.reduceLT,Int.reduceLE,Int.reduceEq,Nat.reduceEqDiff,Nat.reduceAdd,Nat.reduceLeDiff,reduceIte,reduceCtorEq,Nat.reduceBEq,i64,bV,iD,bD,prgO,wayO,Ins.cells,hX,hp0,hpl,hw1,ho,h1',h2,h3,h4,h5,h15,h16,h17,z1,hF0,hF1,Nat.zero_add,gt_iff_lt,ge_iff_le,List.length_map,intsD,c1',hta,hfw,c1,codeWp_scope,codeWp_label,Qscope_normal,Qscope_exit,Qscope_ret]
      refine callC_pure hhas rfl rfl ?_
      simp only[zX,Nat.reduceShiftRight,Nat.reduceMod,Nat.reduceLT,Nat.reduceMul,Nat.reduceSub,Int.reduceToNat,Int.reduceNeg,Int.reduceLT,Int.reduceLE,Int.reduceEq,Nat.reduceEqDiff,Nat.reduceAdd,Nat.reduceLeDiff,reduceIte,reduceCtorEq,Nat.reduceBEq,i64,bV,iD,bD,prgO,wayO,Ins.cells,hX,hp0,hpl,hw1,ho,h1',h2,h3,h4,h5,h15,h16,h17,z1,hF0,hF1,Nat.zero_add,gt_iff_lt,ge_iff_le,List.length_map,intsD,c1',hta,hfw,c1,hw2,Bool.not_true,codeWp_scope,codeWp_label,Qscope_normal,Qscope_exit,Qscope_ret]
      refine in_next (os:=[]) (w:=⟨w.pc + 1,w.a + 1,0,w.regs⟩) (R:=R) (J:=J) (gg:=gg) (F:=F - 1) (n:=k2) ?_ ?_ ?_ ?_ ?_ ?_ ?_ ?_ rfl (by omega) (by omega) (fun x hx=>?_) (by omega) hS2 (by omega) <;> (try simp only[zU,Nat.reduceBEq,Nat.reduceShiftRight,Nat.reduceMod,Nat.reduceEqDiff,reduceIte])
      ·exact h1'
      ·exact h2
      ·exact h3
      ·rfl
      ·exact h5
      ·exact h15
      ·exact h16
      ·exact h17
      ·rcases List.mem_cons.1 hx with rfl | hx
       ·exact⟨hfit.1,by show 0≤w.a + 1; omega,by show w.a + 1≤_; omega⟩
       ·exact hR x (by simp [hx])
     | false =>
      obtain⟨k2,hk2,hS2⟩:=hS.symN ho (fun h=>by rw[c2] at h; exact Bool.false_ne_true h.2)
      rw[c2] at hhas
      simp only[i64,bV,iD,bD] at hhas
      simp only[zX,Nat.reduceShiftRight,Nat.reduceMod,Nat.reduceLT,Nat.reduceMul,Nat.reduceSub,Int.reduceToNat,Int.reduceNeg,Int.reduceLT,Int.reduceLE,Int.reduceEq,Nat.reduceEqDiff,Nat.reduceAdd,Nat.reduceLeDiff,reduceIte,reduceCtorEq,Nat.reduceBEq,i64,bV,iD,bD,prgO,wayO,Ins.cells,hX,hp0,hpl,hw1,ho,h1',h2,h3,h4,h5,h15,h16,h17,z1,hF0,hF1,Nat.zero_add,gt_iff_lt,ge_iff_le,List.length_map,intsD,codeWp_scope,codeWp_label,Qscope_normal,Qscope_exit,Qscope_ret]
      refine draw_c mix [] [] (by rfl) ?_
      simp only[zX,Nat.reduceShiftRight,Nat.reduceMod,Nat.reduceLT,Nat.reduceMul,Nat.reduceSub,Int.reduceToNat,Int.reduceNeg,Int.reduceLT,Int.reduceLE,Int.reduceEq,Nat.reduceEqDiff,Nat.reduceAdd,Nat.reduceLeDiff,reduceIte,reduceCtorEq,Nat.reduceBEq,i64,bV,iD,bD,prgO,wayO,Ins.cells,hX,hp0,hpl,hw1,ho,h1',h2,h3,h4,h5,h15,h16,h17,z1,hF0,hF1,Nat.zero_add,gt_iff_lt,ge_iff_le,List.length_map,intsD,c1',hta,hfw,c1,codeWp_scope,codeWp_label,Qscope_normal,Qscope_exit,Qscope_ret]
      refine callC_pure hhas rfl rfl ?_
      simp only[zX,Nat.reduceShiftRight,Nat.reduceMod,Nat.reduceLT,Nat.reduceMul,Nat.reduceSub,Int.reduceToNat,Int.reduceNeg,Int.reduceLT,Int.reduceLE,Int.reduceEq,Nat.reduceEqDiff,Nat.reduceAdd,Nat.reduceLeDiff,reduceIte,reduceCtorEq,Nat.reduceBEq,i64,bV,iD,bD,prgO,wayO,Ins.cells,hX,hp0,hpl,hw1,ho,h1',h2,h3,h4,h5,h15,h16,h17,z1,hF0,hF1,Nat.zero_add,gt_iff_lt,ge_iff_le,List.length_map,intsD,c1',hta,hfw,c1,Bool.not_false,codeWp_scope,codeWp_label,Qscope_normal,Qscope_exit,Qscope_ret]
      refine out_next (R:=R) (J:=J) (gg:=gg) (F:=F - 1) (k:=k2) ?_ ?_ ?_ ?_ ?_ ?_ ?_ rfl (by omega) (by omega) (fun x hx=>hR x (by simp [hx])) hS2 (by omega) <;> (try simp only[zU,Nat.reduceBEq,Nat.reduceShiftRight,Nat.reduceMod,Nat.reduceEqDiff,reduceIte])
      ·exact h1'
      ·exact h2
      ·exact h3
      ·rfl
      ·exact h5
      ·exact h15
      ·exact h16
    ·obtain⟨k2,hk2,hS2⟩:=hS.symN ho (fun h=>c1 h.1)
     have c1':(t.length:Int)≤w.a:=by omega
     simp only[zX,Nat.reduceShiftRight,Nat.reduceMod,Nat.reduceLT,Nat.reduceMul,Nat.reduceSub,Int.reduceToNat,Int.reduceNeg,Int.reduceLT,Int.reduceLE,Int.reduceEq,Nat.reduceEqDiff,Nat.reduceAdd,Nat.reduceLeDiff,reduceIte,reduceCtorEq,Nat.reduceBEq,i64,bV,iD,bD,prgO,wayO,Ins.cells,hX,hp0,hpl,hw1,ho,h1',h2,h3,h4,h5,h15,h16,h17,z1,hF0,hF1,Nat.zero_add,gt_iff_lt,ge_iff_le,List.length_map,intsD,codeWp_scope,codeWp_label,Qscope_normal,Qscope_exit,Qscope_ret]
     refine draw_c mix [] [] (by rfl) ?_
     simp only[zX,Nat.reduceShiftRight,Nat.reduceMod,Nat.reduceLT,Nat.reduceMul,Nat.reduceSub,Int.reduceToNat,Int.reduceNeg,Int.reduceLT,Int.reduceLE,Int.reduceEq,Nat.reduceEqDiff,Nat.reduceAdd,Nat.reduceLeDiff,reduceIte,reduceCtorEq,Nat.reduceBEq,i64,bV,iD,bD,prgO,wayO,Ins.cells,hX,hp0,hpl,hw1,ho,h1',h2,h3,h4,h5,h15,h16,h17,z1,hF0,hF1,Nat.zero_add,gt_iff_lt,ge_iff_le,List.length_map,intsD,c1',hfw,c1,codeWp_scope,codeWp_label,Qscope_normal,Qscope_exit,Qscope_ret]
     refine out_next (R:=R) (J:=J) (gg:=gg) (F:=F - 1) (k:=k2) ?_ ?_ ?_ ?_ ?_ ?_ ?_ rfl (by omega) (by omega) (fun x hx=>hR x (by simp [hx])) hS2 (by omega) <;> (try simp only[zU,Nat.reduceBEq,Nat.reduceShiftRight,Nat.reduceMod,Nat.reduceEqDiff,reduceIte])
     ·exact h1'
     ·exact h2
     ·exact h3
     ·rfl
     ·exact h5
     ·exact h15
     ·exact h16
   ·obtain⟨k2,hk2,hS2⟩:=hS.spl hg ho
    have hfit:=hR w (by simp)
    simp only[zX,Nat.reduceShiftRight,Nat.reduceMod,Nat.reduceLT,Nat.reduceMul,Nat.reduceSub,Int.reduceToNat,Int.reduceNeg,Int.reduceLT,Int.reduceLE,Int.reduceEq,Nat.reduceEqDiff,Nat.reduceAdd,Nat.reduceLeDiff,reduceIte,reduceCtorEq,Nat.reduceBEq,i64,bV,iD,bD,prgO,wayO,Ins.cells,hX,hp0,hpl,hw1,ho,h1',h2,h3,h4,h5,h15,h16,h17,z1,hF0,hF1,Nat.zero_add,gt_iff_lt,ge_iff_le,List.length_map,intsD,List.take_succ_cons,List.take_zero,List.drop_succ_cons,List.drop_zero,stO,codeWp_scope,codeWp_label,Qscope_normal,Qscope_exit,Qscope_ret]
    refine⟨fun e he=>by rw[List.mem_singleton.1 he]; rfl,⟨by simp,by omega⟩,?_⟩
    refine in_next (os:=[⟨0,true,5,[[i64 (insAt g w.pc).y,i64 w.a,i64 (w.idle + 1),i64 0,.d (.el (w.regs.map iD))]]⟩]) (w:=⟨(insAt g w.pc).x,w.a,w.idle + 1,w.regs⟩) (R:=⟨(insAt g w.pc).y,w.a,w.idle + 1,w.regs⟩::R) (J:=[]) (gg:=gg + 1) (F:=F - 1) (n:=k2) ?_ ?_ ?_ ?_ ?_ ?_ ?_ ?_ (by rw[← push_st gg.succ R J]; rfl) (by omega) (by rw[List.length_cons]; omega) (fun x hx=>?_) (by omega) hS2 (by omega) <;> (try simp only[zU,Nat.reduceBEq,Nat.reduceShiftRight,Nat.reduceMod,Nat.reduceEqDiff,reduceIte])
    ·exact h1'
    ·exact h2
    ·exact h3
    ·rfl
    ·exact h5
    ·exact h15
    ·rfl
    ·exact h17
    ·rcases List.mem_cons.1 hx with rfl | hx
     ·exact hfit
     ·rcases List.mem_cons.1 hx with rfl | hx
      ·exact hfit
      ·exact hR x (by simp [hx])
   ·obtain⟨k2,hk2,hS2⟩:=hS.jmp hg ho
    have hfit:=hR w (by simp)
    simp only[zX,Nat.reduceShiftRight,Nat.reduceMod,Nat.reduceLT,Nat.reduceMul,Nat.reduceSub,Int.reduceToNat,Int.reduceNeg,Int.reduceLT,Int.reduceLE,Int.reduceEq,Nat.reduceEqDiff,Nat.reduceAdd,Nat.reduceLeDiff,reduceIte,reduceCtorEq,Nat.reduceBEq,i64,bV,iD,bD,prgO,wayO,Ins.cells,hX,hp0,hpl,hw1,ho,h1',h2,h3,h4,h5,h15,h16,h17,z1,hF0,hF1,Nat.zero_add,gt_iff_lt,ge_iff_le,List.length_map,intsD,codeWp_scope,codeWp_label,Qscope_normal,Qscope_exit,Qscope_ret]
    refine in_next (os:=[]) (w:=⟨(insAt g w.pc).x,w.a,w.idle + 1,w.regs⟩) (R:=R) (J:=J) (gg:=gg) (F:=F - 1) (n:=k2) ?_ ?_ ?_ ?_ ?_ ?_ ?_ ?_ rfl (by omega) (by omega) (fun x hx=>?_) (by omega) hS2 (by omega) <;> (try simp only[zU,Nat.reduceBEq,Nat.reduceShiftRight,Nat.reduceMod,Nat.reduceEqDiff,reduceIte])
    ·exact h1'
    ·exact h2
    ·exact h3
    ·rfl
    ·exact h5
    ·exact h15
    ·exact h16
    ·exact h17
    ·rcases List.mem_cons.1 hx with rfl | hx
     ·exact hfit
     ·exact hR x (by simp [hx])
   ·obtain⟨k2,hk2,hS2⟩:=hS.sav hg ho
    have hfit:=hR w (by simp)
    simp only[zX,Nat.reduceShiftRight,Nat.reduceMod,Nat.reduceLT,Nat.reduceMul,Nat.reduceSub,Int.reduceToNat,Int.reduceNeg,Int.reduceLT,Int.reduceLE,Int.reduceEq,Nat.reduceEqDiff,Nat.reduceAdd,Nat.reduceLeDiff,reduceIte,reduceCtorEq,Nat.reduceBEq,i64,bV,iD,bD,prgO,wayO,Ins.cells,hX,hp0,hpl,hw1,ho,h1',h2,h3,h4,h5,h15,h16,h17,z1,hF0,hF1,Nat.zero_add,gt_iff_lt,ge_iff_le,List.length_map,intsD,List.take_succ_cons,List.take_zero,List.drop_succ_cons,List.drop_zero,codeWp_scope,codeWp_label,Qscope_normal,Qscope_exit,Qscope_ret]
    have h18:=regs_18 hfit.1
    have hgv:=hg.save w.pc.toNat _ hX ho
    have hc9:=hg.caps1
    refine⟨by rw[hfit.1]; exact Nat.le_refl _,by rw[h18]; simp [hfit.1],?_⟩
    have hd18:∀z:V,List.map i64 w.regs++List.drop (List.map i64 w.regs).length [z,z,z,z,z,z,z,z,z,z,z,z,z,z,z,z,z,z]=List.map i64 w.regs:=fun z=>by rw[List.length_map,hfit.1]; simp
    rw[h18,hd18]
    refine draw_c mix [7] [] (by rfl) ?_
    simp only[zX,Nat.reduceShiftRight,Nat.reduceMod,Nat.reduceLT,Nat.reduceMul,Nat.reduceSub,Int.reduceToNat,Int.reduceNeg,Int.reduceLT,Int.reduceLE,Int.reduceEq,Nat.reduceEqDiff,Nat.reduceAdd,Nat.reduceLeDiff,reduceIte,reduceCtorEq,Nat.reduceBEq,i64,bV,iD,bD,prgO,wayO,Ins.cells,hX,hp0,hpl,hw1,ho,h1',h2,h3,h4,h5,h15,h16,h17,z1,hF0,hF1,Nat.zero_add,gt_iff_lt,ge_iff_le,List.length_map,intsD,codeWp_scope,codeWp_label,Qscope_normal,Qscope_exit,Qscope_ret]
    refine⟨hgv.1,by omega,by rw[hfit.1]; omega,?_⟩
    have hcell:=cell_set (l:=w.regs.map i64) (i:=(insAt g w.pc).n.toNat) (x:=i64 w.a) (by rw[List.length_map,hfit.1]; omega)
    rw[Nat.zero_add,← List.map_set] at hcell
    refine in_sav (pc:=w.pc + 1) (at_:=w.a) (idle:=w.idle + 1) (L:=w.regs.set (insAt g w.pc).n.toNat w.a) (R:=R) (J:=J) (gg:=gg) (F:=F - 1) (n:=k2) ?_ ?_ ?_ ?_ ?_ ?_ ?_ ?_ (by unfold regO; rw[← hcell]; rfl) (by omega) (by omega) (fun x hx=>?_) (by omega) hS2 (by omega) <;> (try simp only[zU,Nat.reduceBEq,Nat.reduceShiftRight,Nat.reduceMod,Nat.reduceEqDiff,reduceIte])
    ·exact h1'
    ·exact h2
    ·exact h3
    ·rfl
    ·exact h5
    ·exact h15
    ·exact h16
    ·exact h17
    ·rcases List.mem_cons.1 hx with rfl | hx
     ·exact⟨by show (w.regs.set _ _).length=18; rw[List.length_set]; exact hfit.1,hfit.2⟩
     ·exact hR x (by simp [hx])
   ·have hfit:=hR w (by simp)
    have hga:=hg.assert w.pc.toNat _ hX ho
    have has:=assert_ok (insAt g w.pc).n t w.a hga.1 hga.2 (by omega) hfit.2.1 hfit.2.2
    cases c2:holdsR (insAt g w.pc).n t w.a with
    | true =>
     obtain⟨k2,hk2,hS2⟩:=hS.ass hg ho c2
     rw[c2] at has
     simp only[i64,bV,iD,bD] at has
     simp only[zX,Nat.reduceShiftRight,Nat.reduceMod,Nat.reduceLT,Nat.reduceMul,Nat.reduceSub,Int.reduceToNat,Int.reduceNeg,Int.reduceLT,Int.reduceLE,Int.reduceEq,Nat.reduceEqDiff,Nat.reduceAdd,Nat.reduceLeDiff,reduceIte,reduceCtorEq,Nat.reduceBEq,i64,bV,iD,bD,prgO,wayO,Ins.cells,hX,hp0,hpl,hw1,ho,h1',h2,h3,h4,h5,h15,h16,h17,z1,hF0,hF1,Nat.zero_add,gt_iff_lt,ge_iff_le,List.length_map,intsD,codeWp_scope,codeWp_label,Qscope_normal,Qscope_exit,Qscope_ret]
     refine draw_c mix [] [] (by rfl) ?_
     simp only[zX,Nat.reduceShiftRight,Nat.reduceMod,Nat.reduceLT,Nat.reduceMul,Nat.reduceSub,Int.reduceToNat,Int.reduceNeg,Int.reduceLT,Int.reduceLE,Int.reduceEq,Nat.reduceEqDiff,Nat.reduceAdd,Nat.reduceLeDiff,reduceIte,reduceCtorEq,Nat.reduceBEq,i64,bV,iD,bD,prgO,wayO,Ins.cells,hX,hp0,hpl,hw1,ho,h1',h2,h3,h4,h5,h15,h16,h17,z1,hF0,hF1,Nat.zero_add,gt_iff_lt,ge_iff_le,List.length_map,intsD,codeWp_scope,codeWp_label,Qscope_normal,Qscope_exit,Qscope_ret]
     refine callC_pure has rfl rfl ?_
     simp only[zX,Nat.reduceShiftRight,Nat.reduceMod,Nat.reduceLT,Nat.reduceMul,Nat.reduceSub,Int.reduceToNat,Int.reduceNeg,Int.reduceLT,Int.reduceLE,Int.reduceEq,Nat.reduceEqDiff,Nat.reduceAdd,Nat.reduceLeDiff,reduceIte,reduceCtorEq,Nat.reduceBEq,i64,bV,iD,bD,prgO,wayO,Ins.cells,hX,hp0,hpl,hw1,ho,h1',h2,h3,h4,h5,h15,h16,h17,z1,hF0,hF1,Nat.zero_add,gt_iff_lt,ge_iff_le,List.length_map,intsD,Bool.not_true,codeWp_scope,codeWp_label,Qscope_normal,Qscope_exit,Qscope_ret]
     refine in_next (os:=[]) (w:=⟨w.pc + 1,w.a,w.idle + 1,w.regs⟩) (R:=R) (J:=J) (gg:=gg) (F:=F - 1) (n:=k2) ?_ ?_ ?_ ?_ ?_ ?_ ?_ ?_ rfl (by omega) (by omega) (fun x hx=>?_) (by omega) hS2 (by omega) <;> (try simp only[zU,Nat.reduceBEq,Nat.reduceShiftRight,Nat.reduceMod,Nat.reduceEqDiff,reduceIte])
     ·exact h1'
     ·exact h2
     ·exact h3
     ·rfl
     ·exact h5
     ·exact h15
     ·exact h16
     ·exact h17
     ·rcases List.mem_cons.1 hx with rfl | hx
      ·exact hfit
      ·exact hR x (by simp [hx])
    | false =>
     obtain⟨k2,hk2,hS2⟩:=hS.assN ho (by rw[c2]; exact Bool.false_ne_true)
     rw[c2] at has
     simp only[i64,bV,iD,bD] at has
     simp only[zX,Nat.reduceShiftRight,Nat.reduceMod,Nat.reduceLT,Nat.reduceMul,Nat.reduceSub,Int.reduceToNat,Int.reduceNeg,Int.reduceLT,Int.reduceLE,Int.reduceEq,Nat.reduceEqDiff,Nat.reduceAdd,Nat.reduceLeDiff,reduceIte,reduceCtorEq,Nat.reduceBEq,i64,bV,iD,bD,prgO,wayO,Ins.cells,hX,hp0,hpl,hw1,ho,h1',h2,h3,h4,h5,h15,h16,h17,z1,hF0,hF1,Nat.zero_add,gt_iff_lt,ge_iff_le,List.length_map,intsD,codeWp_scope,codeWp_label,Qscope_normal,Qscope_exit,Qscope_ret]
     refine draw_c mix [] [] (by rfl) ?_
     simp only[zX,Nat.reduceShiftRight,Nat.reduceMod,Nat.reduceLT,Nat.reduceMul,Nat.reduceSub,Int.reduceToNat,Int.reduceNeg,Int.reduceLT,Int.reduceLE,Int.reduceEq,Nat.reduceEqDiff,Nat.reduceAdd,Nat.reduceLeDiff,reduceIte,reduceCtorEq,Nat.reduceBEq,i64,bV,iD,bD,prgO,wayO,Ins.cells,hX,hp0,hpl,hw1,ho,h1',h2,h3,h4,h5,h15,h16,h17,z1,hF0,hF1,Nat.zero_add,gt_iff_lt,ge_iff_le,List.length_map,intsD,codeWp_scope,codeWp_label,Qscope_normal,Qscope_exit,Qscope_ret]
     refine callC_pure has rfl rfl ?_
     simp only[zX,Nat.reduceShiftRight,Nat.reduceMod,Nat.reduceLT,Nat.reduceMul,Nat.reduceSub,Int.reduceToNat,Int.reduceNeg,Int.reduceLT,Int.reduceLE,Int.reduceEq,Nat.reduceEqDiff,Nat.reduceAdd,Nat.reduceLeDiff,reduceIte,reduceCtorEq,Nat.reduceBEq,i64,bV,iD,bD,prgO,wayO,Ins.cells,hX,hp0,hpl,hw1,ho,h1',h2,h3,h4,h5,h15,h16,h17,z1,hF0,hF1,Nat.zero_add,gt_iff_lt,ge_iff_le,List.length_map,intsD,Bool.not_false,codeWp_scope,codeWp_label,Qscope_normal,Qscope_exit,Qscope_ret]
     refine out_next (R:=R) (J:=J) (gg:=gg) (F:=F - 1) (k:=k2) ?_ ?_ ?_ ?_ ?_ ?_ ?_ rfl (by omega) (by omega) (fun x hx=>hR x (by simp [hx])) hS2 (by omega) <;> (try simp only[zU,Nat.reduceBEq,Nat.reduceShiftRight,Nat.reduceMod,Nat.reduceEqDiff,reduceIte])
     ·exact h1'
     ·exact h2
     ·exact h3
     ·rfl
     ·exact h5
     ·exact h15
     ·exact h16
end Go.Proofs.Ytdofoappodmcoaa
