/- A part of the proof (S40 S41). -/
import Derived.Test.YtllagoeijcjpiaaSL23
import Derived.Test.YtllagoeijcjpiaaSL48
set_option linter.unusedSimpArgs false
set_option linter.unusedVariables false
set_option maxRecDepth 100000
set_option maxHeartbeats 80000000
namespace Go.Proofs.Ytllagoeijcjpiaa
open Go.VL Go.Proofs.Try
def matD (m:Mat):List D:=[iD m.s,iD m.e,capD m.c]
theorem equals_refl (L:List Mat) (hL:L.length≤1000000000) (hc:∀m∈L,m.c.length≤1000000000):PureOK prog 32 [.d (.sl (L.map matD)),.d (.sl (L.map matD))] (bV true):=by
 refine fn_ok func32 rfl ntmps32 results32 rfl 0 51 (by simp) (by simp) ?_
 simp only[zX,simprocAttr,i64,bV,iD,List.length_map,ne_eq,not_true_eq_false]
 refine loop_rule (fun n e s=>∃i:Nat,n=L.length - i∧i≤L.length∧e 0=.d (.sl (L.map matD))∧e 1=.d (.sl (L.map matD))∧e 5=i64 i∧s=[])
  ⟨_,_,_,Cln.refl,0,rfl,by omega,rfl,rfl,rfl,rfl⟩ ?_
 rintro n e s ⟨i,rfl,hi,h0,h1,h5,rfl⟩
 rcases Nat.lt_or_ge i L.length with hlt | hge
 ·obtain⟨x,hx⟩:∃x,L[i]?=some x:=⟨_,List.getElem?_eq_getElem hlt⟩
  have hlt':(i:Int) < L.length:=by omega
  have l0:(0:Int)≤(i:Int):=by omega
  have heq:=equal_ok x x (hc x (List.mem_of_getElem? hx))
  simp only[decide_true,Mat.v,i64,bV] at heq
  simp only[zX,simprocAttr,i64,bV,iD,h0,h1,h5,List.length_map,hlt']
  refine draw_c mix [] [] (by rfl) ?_
  simp only[zX,simprocAttr,i64,bV,iD,h0,h1,h5,List.length_map,hlt',hlt,l0,Int.toNat_natCast,hx,matD]
  refine callC_pure heq rfl rfl ?_
  simp only[zX,simprocAttr,i64,bV,iD,h0,h1,h5,List.length_map,Bool.not_true]
  refine⟨L.length - (i + 1),_,_,by omega,Cln.refl,i + 1,rfl,hlt,?_,?_,?_,rfl⟩ <;> (try simp only[zU,Nat.reduceBEq,Nat.reduceShiftRight,Nat.reduceMod,Nat.reduceEqDiff,reduceIte])
  ·exact h0
  ·exact h1
  ·rw[w64 _ (by omega)]; rfl
 ·have hie:i=L.length:=by omega
  subst hie
  have hlt':¬(L.length:Int) < L.length:=by omega
  simp only[zX,simprocAttr,i64,bV,iD,h0,h1,h5,List.length_map,hlt']
def letR (x:Int):Re:=.mk 1 [(x,x)] [] 0 0 0 0 false
def catR (a b:Re):Re:=.mk 2 [] [a,b] 0 0 0 0 false
def capR (n:Int) (a:Re):Re:=.mk 5 [] [a] 0 0 0 n false
def fstR:Re:=capR 1 (.mk 3 [] [letR 97,catR (letR 97) (letR 98)] 0 0 0 0 false)
def sndR:Re:=capR 2 (.mk 3 [] [letR 99,.mk 2 [] [letR 98,letR 99,letR 100] 0 0 0 0 false] 0 0 0 0 false)
def pLv:Pat:=⟨catR fstR (.mk 4 [] [sndR] 0 1 0 0 false),2,false⟩
def pRep (m:Int):Pat:=⟨.mk 4 [] [letR 97] 0 (-1) m 0 false,0,false⟩
theorem lv_ev:evR [97,98,99,100] 100 60 9 (.run (.mk 0 pLv.re 0 0 .nil) 0 (cap0 pLv)) ⟨0,false,[],[]⟩=some (false,⟨23,false,[4,1,3,2],[[(0,1),(1,4)],[(0,1),(-1,-1)],[(0,2),(2,3)],[(0,2),(-1,-1)]]⟩):=by rfl
theorem rep_ev0:evR [97,97] 100 40 9 (.run (.mk 0 (pRep 0).re 0 0 .nil) 0 (cap0 (pRep 0))) ⟨0,false,[],[]⟩=some (false,⟨6,false,[2,1,0],[[],[],[]]⟩):=by rfl
theorem rep_ev1:evR [97,97] 100 40 9 (.run (.mk 0 (pRep 1).re 0 0 .nil) 0 (cap0 (pRep 1))) ⟨0,false,[],[]⟩=some (false,⟨6,false,[0,1,2],[[],[],[]]⟩):=by rfl
theorem rep_ev2:evR [97,97] 100 40 9 (.run (.mk 0 (pRep 2).re 0 0 .nil) 0 (cap0 (pRep 2))) ⟨0,false,[],[]⟩=some (false,⟨6,false,[2],[[]]⟩):=by rfl
theorem rep_evS:evR [97,97] 100 40 (-1) (.run (.mk 0 (pRep 0).re 0 0 .nil) 0 (cap0 (pRep 0))) ⟨0,false,[],[]⟩=some (false,⟨6,false,[2,1,0],[[],[],[]]⟩):=by rfl
theorem lv_valid:validR pLv=0:=by decide
theorem rep_valid0:validR (pRep 0)=0:=by decide
theorem rep_valid1:validR (pRep 1)=0:=by decide
theorem rep_valid2:validR (pRep 2)=0:=by decide
theorem conc {p:Pat} {t:List Int} {most:Int} {k:Nat} {x:Sst} {b:Bool} (hp:validR p=0) (ht:t.all (symB p.runes)=true) (hl:t.length≤65536) (h:evR t 100 k most (.run (.mk 0 p.re 0 0 .nil) 0 (cap0 p)) ⟨0,false,[],[]⟩=some (b,x)) (he:x.empty=false) :
  valid7 p t 100=0∧searchX p t 0 most 100=(b,x)∧allE p t 0 most 100=0∧allM p t 0 most 100=x.ends.zip x.caps∧allN p t 0 most 100=x.steps:=by
 have hv:valid7 p t 100=0:=by
  unfold valid7
  rw[if_neg (by rw[hp]; simp),if_neg (by omega),if_neg (by rw[ht]; simp),if_neg (by omega)]
 have hx:searchX p t 0 most 100=(b,x):=evX_eq h
 have hE:allE p t 0 most 100=0:=allE_zero hv (Int.le_refl _) (by omega) (by rw[hx]; exact he)
 refine⟨hv,hx,hE,?_,?_⟩
 ·unfold allM; rw[if_pos hE,hx]
 ·unfold allN; rw[if_pos hE,hx]
theorem lvAll_ok:PureOK prog 28 [patV pLv,.d (intsD [97,98,99,100]),i64 0,i64 9,i64 100] (.tu [.d (.sl [[iD 0,iD 4,capD [(0,1),(1,4)]],[iD 0,iD 1,capD [(0,1),(-1,-1)]],[iD 0,iD 3,capD [(0,2),(2,3)]],[iD 0,iD 2,capD [(0,2),(-1,-1)]]]),i64 23,i64 0]):=by
 obtain⟨h1,h2,h3,h4,h5⟩:=conc lv_valid (by decide) (by decide) lv_ev rfl
 have h:=semAll_ok pLv [97,98,99,100] 0 9 100 (by decide) (by decide) (by decide) (fun _ _ _=>by rw[h2]; decide)
 rw[h3,h4,h5] at h
 exact h
theorem repAll0_ok:PureOK prog 28 [patV (pRep 0),.d (intsD [97,97]),i64 0,i64 9,i64 100] (.tu [.d (.sl [[iD 0,iD 2,capD []],[iD 0,iD 1,capD []],[iD 0,iD 0,capD []]]),i64 6,i64 0]):=by
 obtain⟨h1,h2,h3,h4,h5⟩:=conc rep_valid0 (by decide) (by decide) rep_ev0 rfl
 have h:=semAll_ok (pRep 0) [97,97] 0 9 100 (by decide) (by decide) (by decide) (fun _ _ _=>by rw[h2]; decide)
 rw[h3,h4,h5] at h
 exact h
theorem repAll1_ok:PureOK prog 28 [patV (pRep 1),.d (intsD [97,97]),i64 0,i64 9,i64 100] (.tu [.d (.sl [[iD 0,iD 0,capD []],[iD 0,iD 1,capD []],[iD 0,iD 2,capD []]]),i64 6,i64 0]):=by
 obtain⟨h1,h2,h3,h4,h5⟩:=conc rep_valid1 (by decide) (by decide) rep_ev1 rfl
 have h:=semAll_ok (pRep 1) [97,97] 0 9 100 (by decide) (by decide) (by decide) (fun _ _ _=>by rw[h2]; decide)
 rw[h3,h4,h5] at h
 exact h
theorem repAll2_ok:PureOK prog 28 [patV (pRep 2),.d (intsD [97,97]),i64 0,i64 9,i64 100] (.tu [.d (.sl [[iD 0,iD 2,capD []]]),i64 6,i64 0]):=by
 obtain⟨h1,h2,h3,h4,h5⟩:=conc rep_valid2 (by decide) (by decide) rep_ev2 rfl
 have h:=semAll_ok (pRep 2) [97,97] 0 9 100 (by decide) (by decide) (by decide) (fun _ _ _=>by rw[h2]; decide)
 rw[h3,h4,h5] at h
 exact h
theorem repSteps_ok:PureOK prog 67 [patV (pRep 0),.d (intsD [97,97]),i64 0,i64 100] (.tu [i64 6,i64 0]):=by
 obtain⟨h1,h2,h3,h4,h5⟩:=conc rep_valid0 (by decide) (by decide) rep_evS rfl
 have h:=semSteps_ok (pRep 0) [97,97] 0 100 (by decide) (by decide) (fun _ _ _=>by rw[h2]; decide)
 rw[h3,h5] at h
 exact h
theorem letter_ok (x:Int):PureOK prog 64 [i64 x] (reV (letR x)):=by
 refine fn_ok func64 rfl ntmps64 results64 rfl 0 5 (by simp) (by simp) ?_
 simp only[zX,simprocAttr,i64,iD]
 first | exact⟨by simp,rfl⟩ | rfl
theorem lcat_ok (a b:Re):PureOK prog 66 [reV a,reV b] (reV (catR a b)):=by
 rw[reV_eq a,reV_eq b]
 refine fn_ok func66 rfl ntmps66 results66 rfl 0 31 (by simp) (by simp) ?_
 simp only[zX,simprocAttr,i64,iD,bD]
 rw[reV_eq]
 simp only[catR,Re.kids,List.map_cons,List.map_nil,Re.cells_eq a,Re.cells_eq b]
 rfl
theorem lcap_ok (n:Int) (a:Re):PureOK prog 65 [i64 n,reV a] (reV (capR n a)):=by
 rw[reV_eq a]
 refine fn_ok func65 rfl ntmps65 results65 rfl 0 27 (by simp) (by simp) ?_
 simp only[zX,simprocAttr,i64,iD,bD]
 rw[reV_eq]
 simp only[capR,Re.kids,List.map_cons,List.map_nil,Re.cells_eq a]
 rfl
def lvM:List Mat:=[⟨0,4,[(0,1),(1,4)]⟩,⟨0,1,[(0,1),(-1,-1)]⟩,⟨0,3,[(0,2),(2,3)]⟩,⟨0,2,[(0,2),(-1,-1)]⟩]
def endsL:List (List D):=[[intsD [2,1,0]],[intsD [0,1,2]],[intsD [2]]]
theorem repAll_any {j:Nat} (hj:j < 3):∃L:List Mat,PureOK prog 28 [patV (pRep j),.d (intsD [97,97]),i64 0,i64 9,i64 100] (.tu [.d (.sl (L.map matD)),i64 6,i64 0])∧endsL[j]?=some [intsD (L.map Mat.e)]∧L.length≤3:=by
 match j,hj with
 | 0,_=>exact⟨[⟨0,2,[]⟩,⟨0,1,[]⟩,⟨0,0,[]⟩],repAll0_ok,rfl,by decide⟩
 | 1,_=>exact⟨[⟨0,0,[]⟩,⟨0,1,[]⟩,⟨0,2,[]⟩],repAll1_ok,rfl,by decide⟩
 | 2,_=>exact⟨[⟨0,2,[]⟩],repAll2_ok,rfl,by decide⟩
theorem lives7_ok:PureOK prog 33 [] (bV true):=by
 have h97:=letter_ok 97
 have h98:=letter_ok 98
 have h99:=letter_ok 99
 have h100:=letter_ok 100
 simp only[i64] at h97 h98 h99 h100
 refine fn_ok func33 rfl ntmps33 results33 rfl 0 1015551 (by simp) (by simp) ?_
 simp only[zX,simprocAttr,i64,bV]
 refine call_pure h97 rfl rfl ?_
 simp only[zX,simprocAttr,i64,bV,iD,bD,reV_eq]
 refine call_pure h98 rfl rfl ?_
 simp only[zX,simprocAttr,i64,bV,iD,bD,reV_eq]
 refine call_pure h99 rfl rfl ?_
 simp only[zX,simprocAttr,i64,bV,iD,bD,reV_eq]
 refine draw_first Cln0.reserve ?_
 refine draw_c mix [] [(7,[3],[3]),(8,[3],[3])] (by rfl) ?_
 simp only[zX,simprocAttr,i64,bV,iD,bD,reV_eq,List.cons_append,List.nil_append,hole]
 refine callC_pure (lcat_ok (letR 97) (letR 98)) rfl rfl ?_
 simp only[zX,simprocAttr,i64,bV,iD,bD,reV_eq,List.cons_append,List.nil_append]
 refine callC_give (lcap_ok 1 (.mk 3 [] [letR 97,catR (letR 97) (letR 98)] 0 0 0 0 false)) (fun s'=>by rfl) rfl rfl ?_
 simp only[zX,simprocAttr,i64,bV,iD,bD,reV_eq,List.cons_append,List.nil_append]
 refine draw_first Cln0.reserve ?_
 refine draw_c mix [] [(9,[4],[4]),(10,[4],[4])] (by rfl) ?_
 simp only[zX,simprocAttr,i64,bV,iD,bD,reV_eq,List.cons_append,List.nil_append,hole]
 refine callC_pure h100 rfl rfl ?_
 simp only[zX,simprocAttr,i64,bV,iD,bD,reV_eq,List.cons_append,List.nil_append]
 refine callC_give (lcap_ok 2 (.mk 3 [] [letR 99,.mk 2 [] [letR 98,letR 99,letR 100] 0 0 0 0 false] 0 0 0 0 false)) (fun s'=>by rfl) rfl rfl ?_
 simp only[zX,simprocAttr,i64,bV,iD,bD,reV_eq,List.cons_append,List.nil_append]
 refine call_give [] (cargs:=[reV fstR,reV (.mk 4 [] [sndR] 0 1 0 0 false)]) (by rfl) ?_
 refine call_pure (lcat_ok fstR (.mk 4 [] [sndR] 0 1 0 0 false)) rfl rfl ?_
 simp only[zX,simprocAttr,i64,bV,iD,bD,reV_eq,List.cons_append,List.nil_append,killO]
 refine call_give [] (cargs:=[patV pLv,.d (intsD [97,98,99,100]),i64 0,i64 9,i64 100]) (by rfl) ?_
 refine call_pure lvAll_ok rfl rfl ?_
 simp only[zX,simprocAttr,i64,bV,iD,bD,reV_eq,List.cons_append,List.nil_append,killO,ne_eq,not_true_eq_false]
 refine call_give [] (cargs:=[.d (.sl (lvM.map matD)),.d (.sl (lvM.map matD))]) (by rfl) ?_
 refine call_pure (equals_refl lvM (by decide) (by decide)) rfl rfl ?_
 simp only[zX,simprocAttr,i64,bV,iD,bD,reV_eq,List.cons_append,List.nil_append,killO,Bool.not_true]
 refine loop_rule (fun n e s=>∃j:Nat,n=3 - j∧j≤3∧e 1=.d (.el (letR 97).cells)∧e 11=.d (.sl endsL)∧e 12=i64 j∧s=[])
  ⟨_,_,_,Cln.drop 0 (by omega) [1,11,12],0,rfl,by omega,?_,?_,?_,rfl⟩ ?_
 ·rfl
 ·rfl
 ·rfl
 rintro n e s ⟨j,rfl,hj,h1,h11,h12,rfl⟩
 rw[Re.cells_eq] at h1
 simp only[iD,bD] at h1
 rcases Nat.lt_or_ge j 3 with hlt | hge
 ·obtain⟨L,hAll,hE,hLl⟩:=repAll_any hlt
  have hj3:(j:Int) < 3:=by omega
  have hj0:(0:Int)≤(j:Int):=by omega
  have hel:endsL.length=3:=rfl
  have hje:(j:Int) < (endsL.length:Int):=by omega
  have hjl:j < endsL.length:=by omega
  generalize endsL=EL at *
  simp only[zX,simprocAttr,i64,bV,iD,bD,h1,h11,h12,hj3,List.cons_append,List.nil_append]
  refine call_give [] (cargs:=[patV (pRep j),.d (intsD [97,97]),i64 0,i64 9,i64 100]) (by rfl) ?_
  refine call_pure hAll rfl rfl ?_
  simp only[zX,simprocAttr,i64,bV,iD,bD,h1,h11,h12,killO,List.cons_append,List.nil_append,ne_eq,not_true_eq_false,hj0,hje,hjl,hE,Int.toNat_natCast,List.length_map]
  refine loop_rule (fun n e s=>∃i:Nat,n=L.length - i∧i≤L.length∧e 1=.d (.el (letR 97).cells)∧e 11=.d (.sl EL)∧e 12=i64 j∧e 14=.d (.sl (L.map matD))∧e 17=i64 i∧s=[])
   ⟨_,_,_,Cln.cut (s':=[]) 0 (Nat.le_refl _) rfl rfl [1,11,12,14,17] (by simp [updE,trimE_app,refsV,i64,h1,h11,h12]),0,rfl,by omega,?_,?_,?_,?_,?_,rfl⟩ ?_ <;> (try simp only[zU,Nat.reduceBEq,Nat.reduceShiftRight,Nat.reduceMod,Nat.reduceEqDiff,reduceIte])
  ·rw[h1,Re.cells_eq]; rfl
  ·exact h11
  ·exact h12
  ·rfl
  clear h1 h11 h12 hAll
  rintro n e s ⟨i,rfl,hi,h1,h11,h12,h14,h17,rfl⟩
  rcases Nat.lt_or_ge i L.length with hlt2 | hge2
  ·obtain⟨x,hx⟩:∃x,L[i]?=some x:=⟨_,List.getElem?_eq_getElem hlt2⟩
   have hi0:(0:Int)≤(i:Int):=by omega
   have hil:(i:Int) < (L.length:Int):=by omega
   simp only[zX,simprocAttr,i64,bV,iD,bD,h1,h11,h12,h14,h17,List.length_map,hil]
   refine draw_c mix [] [] (by rfl) ?_
   simp only[zX,simprocAttr,i64,bV,iD,bD,h1,h11,h12,h14,h17,List.length_map,hil,hi0,hlt2,hj0,hje,hjl,hE,Int.toNat_natCast,hx,matD,intsD,List.map_map,Function.comp_apply,Option.map_some,List.getElem?_map]
   refine⟨L.length - (i + 1),_,_,by omega,Cln.refl,i + 1,rfl,hlt2,?_,?_,?_,?_,?_,rfl⟩ <;> (try simp only[zU,Nat.reduceBEq,Nat.reduceShiftRight,Nat.reduceMod,Nat.reduceEqDiff,reduceIte])
   ·exact h1
   ·exact h11
   ·exact h12
   ·exact h14
   ·rw[w64 _ (by omega)]; rfl
  ·have hie:i=L.length:=by omega
   subst hie
   have hil:¬(L.length:Int) < (L.length:Int):=by omega
   simp only[zX,simprocAttr,i64,bV,iD,bD,h1,h11,h12,h14,h17,List.length_map,hil]
   refine⟨3 - (j + 1),_,_,by omega,Cln.refl,j + 1,rfl,hlt,?_,?_,?_,rfl⟩ <;> (try simp only[zU,Nat.reduceBEq,Nat.reduceShiftRight,Nat.reduceMod,Nat.reduceEqDiff,reduceIte])
   ·exact h1
   ·exact h11
   ·rw[w64 _ (by omega)]; rfl
 ·have hjj:j=3:=by omega
  subst hjj
  have hj3:¬((3:Nat):Int) < 3:=by omega
  simp only[zX,simprocAttr,i64,bV,iD,bD,h1,h11,h12,hj3,List.cons_append,List.nil_append]
  refine call_give [] (cargs:=[patV (pRep 0),.d (intsD [97,97]),i64 0,i64 100]) (by rfl) ?_
  refine call_pure repSteps_ok rfl rfl ?_
  simp only[zX,simprocAttr,i64,bV,iD,bD,h1,h11,h12,hj3,List.cons_append,List.nil_append,killO]
end Go.Proofs.Ytllagoeijcjpiaa
