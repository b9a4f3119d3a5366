/- A part of the proof (MM23). -/
import Derived.Test.YtpppfpaalcbggaaMB36
set_option linter.unusedSimpArgs false
set_option linter.unusedVariables false
set_option maxRecDepth 100000
set_option maxHeartbeats 80000000
namespace Go.Proofs.Ytpppfpaalcbggaa
open Go.VL
theorem xtimes_ok (a b:Int) (ha:0 < a) (hb:0 < b) (ha2:a≤topM) (hb2:b≤topM):PureOK Try.prog 35 [i64 a,i64 b] (i64 (timesR a b)):=by
 unfold topM at *
 unfold timesR
 have hq:=quo_ediv hb
 have hb0:¬b=0:=by omega
 have hq1:0≤1099511627776 / b:=Int.ediv_nonneg (by decide) (by omega)
 have hq2:1099511627776 / b≤1099511627776:=Int.ediv_le_self _ (by decide)
 by_cases c:1099511627776 / b < a
 ·rw[if_pos c]
  have w1:IntKind.i64.wrap (1099511627776 / b)=1099511627776 / b:=w64 _ (by omega)
  refine fn_ok Try.func35 rfl Try.ntmps35 Try.results35 rfl 0 19 (by simp) (by simp) ?_
  simp only[zX,Nat.reduceShiftRight,Nat.reduceMod,Nat.reduceLT,Nat.reduceMul,Nat.reduceSub,Int.reduceToNat,Int.reduceNeg,Int.reduceLT,Int.reduceLE,Int.reduceEq,Nat.reduceEqDiff,Nat.reduceAdd,Nat.reduceLeDiff,reduceIte,reduceCtorEq,Nat.reduceBEq,i64,hb0,hq,w1,gt_iff_lt,c]
 ·rw[if_neg c]
  have hm:a * b≤1099511627776:=Int.mul_le_of_le_ediv hb (by omega)
  have hm0:0 < a * b:=Int.mul_pos ha hb
  have w1:IntKind.i64.wrap (1099511627776 / b)=1099511627776 / b:=w64 _ (by omega)
  have w2:IntKind.i64.wrap (a * b)=a * b:=w64 _ (by omega)
  refine fn_ok Try.func35 rfl Try.ntmps35 Try.results35 rfl 0 19 (by simp) (by simp) ?_
  simp only[zX,Nat.reduceShiftRight,Nat.reduceMod,Nat.reduceLT,Nat.reduceMul,Nat.reduceSub,Int.reduceToNat,Int.reduceNeg,Int.reduceLT,Int.reduceLE,Int.reduceEq,Nat.reduceEqDiff,Nat.reduceAdd,Nat.reduceLeDiff,reduceIte,reduceCtorEq,Nat.reduceBEq,i64,hb0,hq,w1,w2,gt_iff_lt,c]
theorem timesR_top {a b:Int} (_ha:0 < a) (hb:0 < b):timesR a b≤topM:=by
 unfold timesR topM
 split
 ·decide
 ·have:=Int.mul_le_of_le_ediv hb (show a≤1099511627776 / b by omega)
  omega
theorem weisR_append (a b:List Re) (x:Int):weisR (a++b) x=weisR b (weisR a x):=by
 induction a generalizing x with
 | nil=>simp [weisR]
 | cons k l ih=>simp only[List.cons_append,weisR,ih]
theorem loopsR_append (a b:List Re) (x:Int):loopsR (a++b) x=loopsR b (loopsR a x):=by
 induction a generalizing x with
 | nil=>simp [loopsR]
 | cons k l ih=>simp only[List.cons_append,loopsR,ih]
theorem deepsR_append (a b:List Re) (x:Int):deepsR (a++b) x=deepsR b (deepsR a x):=by
 induction a generalizing x with
 | nil=>simp [deepsR]
 | cons k l ih=>simp only[List.cons_append,deepsR,ih]
theorem weiR_eq (re:Re):weiR re=min (if re.op=4 then rndR re.mn re.mx * (weisR re.kids 1 + 1) else weisR re.kids 1) 2199023255552:=by
 cases re; rw[weiR]; rfl
theorem loopR_eq (re:Re):loopR re=loopsR re.kids 0 + (if re.op=4∧(nulH re.kids)=true then 1 else 0):=by
 cases re; rw[loopR]; rfl
theorem deepR_eq (re:Re):deepR re=deepsR re.kids 0 + (if re.op=7∨re.op=8∨re.op=9∨(re.op=4∧re.mode=2) then 1 else 0):=by
 cases re; rw[deepR]; rfl
mutual
theorem ref_in:∀re:Re,re.every valB=true→(0 < weiR re∧weiR re≤2199023255552)∧(0≤loopR re∧loopR re≤re.size)∧(0≤deepR re∧deepR re≤re.size)
 | .mk op set kids mn mx mode n neg,h=>by
  obtain⟨h1,h2⟩:=(Re.every_iff _).1 h
  obtain⟨⟨a1,a2⟩,⟨a3,a4⟩,a5,a6⟩:=refL_in kids h2 1 0 0 0 ⟨by decide,by decide⟩ ⟨by decide,by decide⟩ ⟨by decide,by decide⟩
  rw[weiR,loopR,deepR]
  have hs:(Re.mk op set kids mn mx mode n neg).size=1 + Re.sizeL kids:=rfl
  rw[hs]
  refine⟨⟨?_,by omega⟩,⟨?_,?_⟩,?_,?_⟩
  ·by_cases o:op=4
   ·rw[if_pos o]
    have hr:=val_rnd h1 o
    have:=Int.mul_pos hr.1 (show 0 < weisR kids 1 + 1 by omega)
    exact Int.lt_min.2 ⟨this,by decide⟩
   ·rw[if_neg o]
    exact Int.lt_min.2 ⟨a1,by decide⟩
  all_goals split <;> omega
theorem refL_in:∀(l:List Re),(∀k∈l,k.every valB=true)→∀(w lo de:Int) (n:Nat),(0 < w∧w≤1 + n * 2199023255552)→(0≤lo∧lo≤n)→(0≤de∧de≤n) →
  (0 < weisR l w∧weisR l w≤1 + (n + Re.sizeL l:Nat) * 2199023255552)∧(0≤loopsR l lo∧loopsR l lo≤(n + Re.sizeL l:Nat))∧(0≤deepsR l de∧deepsR l de≤(n + Re.sizeL l:Nat))
 | [],_,w,lo,de,n,hw,hlo,hde=>by simpa [weisR,loopsR,deepsR,Re.sizeL] using ⟨hw,hlo,hde⟩
 | k::l,hl,w,lo,de,n,hw,hlo,hde=>by
  obtain⟨⟨b1,b2⟩,⟨b3,b4⟩,b5,b6⟩:=ref_in k (hl k (by simp))
  have hp:=k.size_pos
  rw[weisR,loopsR,deepsR,Re.sizeL,← Nat.add_assoc]
  exact refL_in l (fun y hy=>hl y (by simp [hy])) _ _ _ (n + k.size) ⟨by omega,by omega⟩ ⟨by omega,by omega⟩ ⟨by omega,by omega⟩
end
theorem refWeight_ok (re:Re):re.fine=true→re.every valB=true→re.size≤2000→PureOK Try.prog 36 [reV re] (i64 (weiR re)):=by
 induction re using Re.ind with
 | h re ih =>
 intro hf hv hsz
 obtain⟨hset1,hlen,hfk⟩:=Re.fine_spec hf
 obtain⟨hv1,hv2⟩:=(Re.every_iff _).1 hv
 have hsz2:=Re.size_eq re
 have hstep:∀i k,re.kids[i]?=some k→weisR (re.kids.take (i + 1)) 1=weisR (re.kids.take i) 1 + weiR k:=by
  intro i k hk
  rw[take_get hk,weisR_append,weisR,weisR]
 have hin:∀i,0 < weisR (re.kids.take i) 1∧weisR (re.kids.take i) 1≤1 + (0 + Re.sizeL (re.kids.take i):Nat) * 2199023255552:=fun i=>(refL_in _ (fun k hk=>hv2 k (List.mem_of_mem_take hk)) 1 0 0 0 ⟨by decide,by decide⟩ ⟨by decide,by decide⟩ ⟨by decide,by decide⟩).1
 rw[weiR_eq]
 refine fn_ok Try.func36 rfl Try.ntmps36 Try.results36 rfl 0 63 (by simp) (by simp) ?_
 simp only[zX,Nat.reduceShiftRight,Nat.reduceMod,Nat.reduceLT,Nat.reduceMul,Nat.reduceSub,Int.reduceToNat,Int.reduceNeg,Int.reduceLT,Int.reduceLE,Int.reduceEq,Nat.reduceEqDiff,Nat.reduceAdd,Nat.reduceLeDiff,reduceIte,reduceCtorEq,Nat.reduceBEq,i64,iD,bD,reV_eq re]
 refine loop_rule (fun n e s=>∃i:Nat,n=re.kids.length - i∧i≤re.kids.length∧e 1=.rf 0 0 0 0∧e 3=i64 (weisR (re.kids.take i) 1)∧e 4=i64 i∧s=[⟨0,true,8,[re.cells.map .d]⟩])
  ⟨_,_,_,Cln.refl,0,rfl,by omega,rfl,by simp [weisR]; rfl,rfl,by simp [Re.cells_eq re,iD,bD]⟩ ?_
 rintro n e s ⟨i,rfl,hi,h1,h3,h4,rfl⟩
 have hTi:=Re.sizeL_take re.kids i
 obtain⟨a1,a2⟩:=hin i
 rcases Nat.lt_or_ge i re.kids.length with hlt | hge
 ·obtain⟨k,hk⟩:∃k,re.kids[i]?=some k:=⟨_,List.getElem?_eq_getElem hlt⟩
  have hm:=List.mem_of_getElem? hk
  have hks:=Re.size_kid hm
  have hkin:=(ref_in k (hv2 k hm)).1
  have hc:=ih k hm (hfk k hm) (hv2 k hm) (by omega)
  have hst:=hstep i k hk
  generalize weisR (re.kids.take i) 1=x at *
  generalize weiR k=y at *
  have w1:IntKind.i64.wrap (x + y)=x + y:=w64 _ (by omega)
  simp only[zX,Nat.reduceShiftRight,Nat.reduceMod,Nat.reduceLT,Nat.reduceMul,Nat.reduceSub,Int.reduceToNat,Int.reduceNeg,Int.reduceLT,Int.reduceLE,Int.reduceEq,Nat.reduceEqDiff,Nat.reduceAdd,Nat.reduceLeDiff,reduceIte,reduceCtorEq,Nat.reduceBEq,i64,iD,bD,Re.cells_eq re,List.map_cons,List.map_nil,h1,h3,h4,hlt,hk]
  refine call_pure hc (by simp [refsV,refsV.go,reV_eq,i64,bV,reEl]) (by simp [refsV,refsV.go,reV_eq,i64,bV,reEl]) ?_
  simp only[zX,Nat.reduceShiftRight,Nat.reduceMod,Nat.reduceLT,Nat.reduceMul,Nat.reduceSub,Int.reduceToNat,Int.reduceNeg,Int.reduceLT,Int.reduceLE,Int.reduceEq,Nat.reduceEqDiff,Nat.reduceAdd,Nat.reduceLeDiff,reduceIte,reduceCtorEq,Nat.reduceBEq,i64,iD,bD,Re.cells_eq re,List.map_cons,List.map_nil,h1,h3,h4,w1]
  refine⟨re.kids.length - (i + 1),_,_,by omega,Cln.refl,i + 1,rfl,hlt,?_,?_,?_,by simp [Re.cells_eq re,iD,bD]⟩ <;> (try simp only[zU,Nat.reduceBEq,Nat.reduceShiftRight,Nat.reduceMod,Nat.reduceEqDiff,reduceIte])
  ·exact h1
  ·rw[hst]
  ·rw[w64 _ (by omega)]; rfl
 ·have hie:i=re.kids.length:=by omega
  subst hie
  rw[List.take_length] at *
  generalize weisR re.kids 1=x at *
  by_cases o:re.op=4
  ·have hr:=val_rnd hv1 o
   rw[if_pos o]
   unfold rndR at hr ⊢
   have hx2:x≤1 + 2000 * 2199023255552:=by omega
   by_cases cm:re.mx=-1
   ·rw[if_pos cm] at hr ⊢
    have hm1:(re.mn + 1) * (x + 1)≤33 * (2 + 2000 * 2199023255552):=Int.mul_le_mul hr.2 (by omega) (by omega) (by decide)
    have hm0:=Int.mul_pos hr.1 (show 0 < x + 1 by omega)
    have w1:IntKind.i64.wrap (re.mn + 1)=re.mn + 1:=w64 _ (by omega)
    have w2:IntKind.i64.wrap (x + 1)=x + 1:=w64 _ (by omega)
    have w3:IntKind.i64.wrap ((re.mn + 1) * (x + 1))=(re.mn + 1) * (x + 1):=w64 _ (by omega)
    have w4:IntKind.i64.wrap (re.mx + 1)=re.mx + 1:=w64 _ (by omega)
    have h10:(-1:Int) + 1=0:=by decide
    have w0:IntKind.i64.wrap 0=0:=w64 _ (by omega)
    simp only[zX,Nat.reduceShiftRight,Nat.reduceMod,Nat.reduceLT,Nat.reduceMul,Nat.reduceSub,Int.reduceToNat,Int.reduceNeg,Int.reduceLT,Int.reduceLE,Int.reduceEq,Nat.reduceEqDiff,Nat.reduceAdd,Nat.reduceLeDiff,reduceIte,reduceCtorEq,Nat.reduceBEq,i64,iD,bD,Re.cells_eq re,List.map_cons,List.map_nil,h1,h3,h4,Int.lt_irrefl,o,cm,w1,w2,w3,h10,w0]
   ·rw[if_neg cm] at hr ⊢
    have hm1:(re.mx + 1) * (x + 1)≤33 * (2 + 2000 * 2199023255552):=Int.mul_le_mul hr.2 (by omega) (by omega) (by decide)
    have hm0:=Int.mul_pos hr.1 (show 0 < x + 1 by omega)
    have w1:IntKind.i64.wrap (re.mx + 1)=re.mx + 1:=w64 _ (by omega)
    have w2:IntKind.i64.wrap (x + 1)=x + 1:=w64 _ (by omega)
    have w3:IntKind.i64.wrap ((re.mx + 1) * (x + 1))=(re.mx + 1) * (x + 1):=w64 _ (by omega)
    simp only[zX,Nat.reduceShiftRight,Nat.reduceMod,Nat.reduceLT,Nat.reduceMul,Nat.reduceSub,Int.reduceToNat,Int.reduceNeg,Int.reduceLT,Int.reduceLE,Int.reduceEq,Nat.reduceEqDiff,Nat.reduceAdd,Nat.reduceLeDiff,reduceIte,reduceCtorEq,Nat.reduceBEq,i64,iD,bD,Re.cells_eq re,List.map_cons,List.map_nil,h1,h3,h4,Int.lt_irrefl,o,cm,w1,w2,w3]
  ·rw[if_neg o]
   simp only[zX,Nat.reduceShiftRight,Nat.reduceMod,Nat.reduceLT,Nat.reduceMul,Nat.reduceSub,Int.reduceToNat,Int.reduceNeg,Int.reduceLT,Int.reduceLE,Int.reduceEq,Nat.reduceEqDiff,Nat.reduceAdd,Nat.reduceLeDiff,reduceIte,reduceCtorEq,Nat.reduceBEq,i64,iD,bD,Re.cells_eq re,List.map_cons,List.map_nil,h1,h3,h4,Int.lt_irrefl,o]
theorem refLoops_ok (re:Re):re.fine=true→re.every valB=true→re.size≤2000→PureOK Try.prog 37 [reV re] (i64 (loopR re)):=by
 induction re using Re.ind with
 | h re ih =>
 intro hf hv hsz
 obtain⟨hset1,hlen,hfk⟩:=Re.fine_spec hf
 obtain⟨hv1,hv2⟩:=(Re.every_iff _).1 hv
 have hsz2:=Re.size_eq re
 have hstep:∀i k,re.kids[i]?=some k→loopsR (re.kids.take (i + 1)) 0=max (loopsR (re.kids.take i) 0) (loopR k):=by
  intro i k hk
  rw[take_get hk,loopsR_append,loopsR,loopsR]
 have hin:∀i,0≤loopsR (re.kids.take i) 0∧loopsR (re.kids.take i) 0≤(0 + Re.sizeL (re.kids.take i):Nat):=fun i=>(refL_in _ (fun k hk=>hv2 k (List.mem_of_mem_take hk)) 1 0 0 0 ⟨by decide,by decide⟩ ⟨by decide,by decide⟩ ⟨by decide,by decide⟩).2.1
 rw[loopR_eq]
 refine fn_ok Try.func37 rfl Try.ntmps37 Try.results37 rfl 0 31 (by simp) (by simp) ?_
 simp only[zX,Nat.reduceShiftRight,Nat.reduceMod,Nat.reduceLT,Nat.reduceMul,Nat.reduceSub,Int.reduceToNat,Int.reduceNeg,Int.reduceLT,Int.reduceLE,Int.reduceEq,Nat.reduceEqDiff,Nat.reduceAdd,Nat.reduceLeDiff,reduceIte,reduceCtorEq,Nat.reduceBEq,i64,iD,bD,reV_eq re]
 refine loop_rule (fun n e s=>∃i:Nat,n=re.kids.length - i∧i≤re.kids.length∧e 1=.rf 0 0 0 0∧e 3=i64 (loopsR (re.kids.take i) 0)∧e 4=i64 i∧s=[⟨0,true,8,[re.cells.map .d]⟩])
  ⟨_,_,_,Cln.refl,0,rfl,by omega,rfl,by simp [loopsR]; rfl,rfl,by simp [Re.cells_eq re,iD,bD]⟩ ?_
 rintro n e s ⟨i,rfl,hi,h1,h3,h4,rfl⟩
 have hTi:=Re.sizeL_take re.kids i
 obtain⟨a1,a2⟩:=hin i
 rcases Nat.lt_or_ge i re.kids.length with hlt | hge
 ·obtain⟨k,hk⟩:∃k,re.kids[i]?=some k:=⟨_,List.getElem?_eq_getElem hlt⟩
  have hm:=List.mem_of_getElem? hk
  have hks:=Re.size_kid hm
  have hc:=ih k hm (hfk k hm) (hv2 k hm) (by omega)
  have hst:=hstep i k hk
  simp only[zX,Nat.reduceShiftRight,Nat.reduceMod,Nat.reduceLT,Nat.reduceMul,Nat.reduceSub,Int.reduceToNat,Int.reduceNeg,Int.reduceLT,Int.reduceLE,Int.reduceEq,Nat.reduceEqDiff,Nat.reduceAdd,Nat.reduceLeDiff,reduceIte,reduceCtorEq,Nat.reduceBEq,i64,iD,bD,Re.cells_eq re,List.map_cons,List.map_nil,h1,h3,h4,hlt,hk]
  refine call_pure hc (by simp [refsV,refsV.go,reV_eq,i64,bV,reEl]) (by simp [refsV,refsV.go,reV_eq,i64,bV,reEl]) ?_
  simp only[zX,Nat.reduceShiftRight,Nat.reduceMod,Nat.reduceLT,Nat.reduceMul,Nat.reduceSub,Int.reduceToNat,Int.reduceNeg,Int.reduceLT,Int.reduceLE,Int.reduceEq,Nat.reduceEqDiff,Nat.reduceAdd,Nat.reduceLeDiff,reduceIte,reduceCtorEq,Nat.reduceBEq,i64,iD,bD,Re.cells_eq re,List.map_cons,List.map_nil,h1,h3,h4]
  refine⟨re.kids.length - (i + 1),_,_,by omega,Cln.refl,i + 1,rfl,hlt,?_,?_,?_,by simp [Re.cells_eq re,iD,bD]⟩ <;> (try simp only[zU,Nat.reduceBEq,Nat.reduceShiftRight,Nat.reduceMod,Nat.reduceEqDiff,reduceIte])
  ·exact h1
  ·rw[hst]
  ·rw[w64 _ (by omega)]; rfl
 ·have hie:i=re.kids.length:=by omega
  subst hie
  rw[List.take_length] at *
  generalize loopsR re.kids 0=x at *
  have w1:IntKind.i64.wrap (x + 1)=x + 1:=w64 _ (by omega)
  by_cases o:re.op=4
  ·have hvk:=(of_decide_eq_true hv1).2.2.1 o
   obtain⟨k,hk⟩:∃k,re.kids[0]?=some k:=⟨_,List.getElem?_eq_getElem (by omega)⟩
   have hl0:(0:Int) < (re.kids.length:Int):=by omega
   have hm:=List.mem_of_getElem? hk
   have hks:=Re.size_kid hm
   have hnu:=refNullable_ok k (by omega)
   rw[← anul_nul k (hv2 k hm)] at hnu
   have hnk:nulH re.kids=k.anul:=by
    cases hh:re.kids with
    | nil=>rw[hh] at hk; cases hk
    | cons y l=>rw[hh] at hk; simp only[List.getElem?_cons_zero,Option.some.injEq] at hk; subst hk; rfl
   rw[hnk]
   simp only[zX,Nat.reduceShiftRight,Nat.reduceMod,Nat.reduceLT,Nat.reduceMul,Nat.reduceSub,Int.reduceToNat,Int.reduceNeg,Int.reduceLT,Int.reduceLE,Int.reduceEq,Nat.reduceEqDiff,Nat.reduceAdd,Nat.reduceLeDiff,reduceIte,reduceCtorEq,Nat.reduceBEq,i64,iD,bD,Re.cells_eq re,List.map_cons,List.map_nil,h1,h3,h4,Int.lt_irrefl,o,hl0,hk,List.length_map]
   refine call_pure hnu (by simp [refsV,refsV.go,reV_eq,i64,bV,reEl]) (by simp [refsV,refsV.go,reV_eq,i64,bV,reEl]) ?_
   cases hkn:k.anul
   all_goals
    simp only[zX,Nat.reduceShiftRight,Nat.reduceMod,Nat.reduceLT,Nat.reduceMul,Nat.reduceSub,Int.reduceToNat,Int.reduceNeg,Int.reduceLT,Int.reduceLE,Int.reduceEq,Nat.reduceEqDiff,Nat.reduceAdd,Nat.reduceLeDiff,reduceIte,reduceCtorEq,Nat.reduceBEq,i64,iD,bD,bV,Re.cells_eq re,List.map_cons,List.map_nil,h1,h3,h4,hkn,w1,and_true,and_false,if_true,if_false,Int.add_zero,Bool.false_eq_true]
    (try rfl)
  ·rw[if_neg (fun h=>o h.1),Int.add_zero]
   simp only[zX,Nat.reduceShiftRight,Nat.reduceMod,Nat.reduceLT,Nat.reduceMul,Nat.reduceSub,Int.reduceToNat,Int.reduceNeg,Int.reduceLT,Int.reduceLE,Int.reduceEq,Nat.reduceEqDiff,Nat.reduceAdd,Nat.reduceLeDiff,reduceIte,reduceCtorEq,Nat.reduceBEq,i64,iD,bD,Re.cells_eq re,List.map_cons,List.map_nil,h1,h3,h4,Int.lt_irrefl,o]
theorem refDeep_ok (re:Re):re.fine=true→re.every valB=true→re.size≤2000→PureOK Try.prog 34 [reV re] (i64 (deepR re)):=by
 induction re using Re.ind with
 | h re ih =>
 intro hf hv hsz
 obtain⟨hset1,hlen,hfk⟩:=Re.fine_spec hf
 obtain⟨hv1,hv2⟩:=(Re.every_iff _).1 hv
 have hsz2:=Re.size_eq re
 have hstep:∀i k,re.kids[i]?=some k→deepsR (re.kids.take (i + 1)) 0=max (deepsR (re.kids.take i) 0) (deepR k):=by
  intro i k hk
  rw[take_get hk,deepsR_append,deepsR,deepsR]
 have hin:∀i,0≤deepsR (re.kids.take i) 0∧deepsR (re.kids.take i) 0≤(0 + Re.sizeL (re.kids.take i):Nat):=fun i=>(refL_in _ (fun k hk=>hv2 k (List.mem_of_mem_take hk)) 1 0 0 0 ⟨by decide,by decide⟩ ⟨by decide,by decide⟩ ⟨by decide,by decide⟩).2.2
 rw[deepR_eq]
 refine fn_ok Try.func34 rfl Try.ntmps34 Try.results34 rfl 0 31 (by simp) (by simp) ?_
 simp only[zX,Nat.reduceShiftRight,Nat.reduceMod,Nat.reduceLT,Nat.reduceMul,Nat.reduceSub,Int.reduceToNat,Int.reduceNeg,Int.reduceLT,Int.reduceLE,Int.reduceEq,Nat.reduceEqDiff,Nat.reduceAdd,Nat.reduceLeDiff,reduceIte,reduceCtorEq,Nat.reduceBEq,i64,iD,bD,reV_eq re]
 refine loop_rule (fun n e s=>∃i:Nat,n=re.kids.length - i∧i≤re.kids.length∧e 1=.rf 0 0 0 0∧e 3=i64 (deepsR (re.kids.take i) 0)∧e 4=i64 i∧s=[⟨0,true,8,[re.cells.map .d]⟩])
  ⟨_,_,_,Cln.refl,0,rfl,by omega,rfl,by simp [deepsR]; rfl,rfl,by simp [Re.cells_eq re,iD,bD]⟩ ?_
 rintro n e s ⟨i,rfl,hi,h1,h3,h4,rfl⟩
 have hTi:=Re.sizeL_take re.kids i
 obtain⟨a1,a2⟩:=hin i
 rcases Nat.lt_or_ge i re.kids.length with hlt | hge
 ·obtain⟨k,hk⟩:∃k,re.kids[i]?=some k:=⟨_,List.getElem?_eq_getElem hlt⟩
  have hm:=List.mem_of_getElem? hk
  have hks:=Re.size_kid hm
  have hc:=ih k hm (hfk k hm) (hv2 k hm) (by omega)
  have hst:=hstep i k hk
  simp only[zX,Nat.reduceShiftRight,Nat.reduceMod,Nat.reduceLT,Nat.reduceMul,Nat.reduceSub,Int.reduceToNat,Int.reduceNeg,Int.reduceLT,Int.reduceLE,Int.reduceEq,Nat.reduceEqDiff,Nat.reduceAdd,Nat.reduceLeDiff,reduceIte,reduceCtorEq,Nat.reduceBEq,i64,iD,bD,Re.cells_eq re,List.map_cons,List.map_nil,h1,h3,h4,hlt,hk]
  refine call_pure hc (by simp [refsV,refsV.go,reV_eq,i64,bV,reEl]) (by simp [refsV,refsV.go,reV_eq,i64,bV,reEl]) ?_
  simp only[zX,Nat.reduceShiftRight,Nat.reduceMod,Nat.reduceLT,Nat.reduceMul,Nat.reduceSub,Int.reduceToNat,Int.reduceNeg,Int.reduceLT,Int.reduceLE,Int.reduceEq,Nat.reduceEqDiff,Nat.reduceAdd,Nat.reduceLeDiff,reduceIte,reduceCtorEq,Nat.reduceBEq,i64,iD,bD,Re.cells_eq re,List.map_cons,List.map_nil,h1,h3,h4]
  refine⟨re.kids.length - (i + 1),_,_,by omega,Cln.refl,i + 1,rfl,hlt,?_,?_,?_,by simp [Re.cells_eq re,iD,bD]⟩ <;> (try simp only[zU,Nat.reduceBEq,Nat.reduceShiftRight,Nat.reduceMod,Nat.reduceEqDiff,reduceIte])
  ·exact h1
  ·rw[hst]
  ·rw[w64 _ (by omega)]; rfl
 ·have hie:i=re.kids.length:=by omega
  subst hie
  rw[List.take_length] at *
  generalize deepsR re.kids 0=x at *
  have w1:IntKind.i64.wrap (x + 1)=x + 1:=w64 _ (by omega)
  by_cases o7:re.op=7
  ·rw[if_pos (.inl o7)]
   simp only[zX,Nat.reduceShiftRight,Nat.reduceMod,Nat.reduceLT,Nat.reduceMul,Nat.reduceSub,Int.reduceToNat,Int.reduceNeg,Int.reduceLT,Int.reduceLE,Int.reduceEq,Nat.reduceEqDiff,Nat.reduceAdd,Nat.reduceLeDiff,reduceIte,reduceCtorEq,Nat.reduceBEq,i64,iD,bD,Re.cells_eq re,List.map_cons,List.map_nil,h1,h3,h4,Int.lt_irrefl,o7,w1]
  by_cases o8:re.op=8
  ·rw[if_pos (.inr (.inl o8))]
   simp only[zX,Nat.reduceShiftRight,Nat.reduceMod,Nat.reduceLT,Nat.reduceMul,Nat.reduceSub,Int.reduceToNat,Int.reduceNeg,Int.reduceLT,Int.reduceLE,Int.reduceEq,Nat.reduceEqDiff,Nat.reduceAdd,Nat.reduceLeDiff,reduceIte,reduceCtorEq,Nat.reduceBEq,i64,iD,bD,Re.cells_eq re,List.map_cons,List.map_nil,h1,h3,h4,Int.lt_irrefl,o8,w1]
  by_cases o9:re.op=9
  ·rw[if_pos (.inr (.inr (.inl o9)))]
   simp only[zX,Nat.reduceShiftRight,Nat.reduceMod,Nat.reduceLT,Nat.reduceMul,Nat.reduceSub,Int.reduceToNat,Int.reduceNeg,Int.reduceLT,Int.reduceLE,Int.reduceEq,Nat.reduceEqDiff,Nat.reduceAdd,Nat.reduceLeDiff,reduceIte,reduceCtorEq,Nat.reduceBEq,i64,iD,bD,Re.cells_eq re,List.map_cons,List.map_nil,h1,h3,h4,Int.lt_irrefl,o9,w1]
  by_cases o4:re.op=4
  ·by_cases om:re.mode=2
   ·rw[if_pos (.inr (.inr (.inr ⟨o4,om⟩)))]
    simp only[zX,Nat.reduceShiftRight,Nat.reduceMod,Nat.reduceLT,Nat.reduceMul,Nat.reduceSub,Int.reduceToNat,Int.reduceNeg,Int.reduceLT,Int.reduceLE,Int.reduceEq,Nat.reduceEqDiff,Nat.reduceAdd,Nat.reduceLeDiff,reduceIte,reduceCtorEq,Nat.reduceBEq,i64,iD,bD,Re.cells_eq re,List.map_cons,List.map_nil,h1,h3,h4,Int.lt_irrefl,o4,om,w1]
   ·rw[if_neg (fun h=>by rcases h with h | h | h | h; exact o7 h; exact o8 h; exact o9 h; exact om h.2),Int.add_zero]
    simp only[zX,Nat.reduceShiftRight,Nat.reduceMod,Nat.reduceLT,Nat.reduceMul,Nat.reduceSub,Int.reduceToNat,Int.reduceNeg,Int.reduceLT,Int.reduceLE,Int.reduceEq,Nat.reduceEqDiff,Nat.reduceAdd,Nat.reduceLeDiff,reduceIte,reduceCtorEq,Nat.reduceBEq,i64,iD,bD,Re.cells_eq re,List.map_cons,List.map_nil,h1,h3,h4,Int.lt_irrefl,o4,om]
  ·rw[if_neg (fun h=>by rcases h with h | h | h | h; exact o7 h; exact o8 h; exact o9 h; exact o4 h.1),Int.add_zero]
   simp only[zX,Nat.reduceShiftRight,Nat.reduceMod,Nat.reduceLT,Nat.reduceMul,Nat.reduceSub,Int.reduceToNat,Int.reduceNeg,Int.reduceLT,Int.reduceLE,Int.reduceEq,Nat.reduceEqDiff,Nat.reduceAdd,Nat.reduceLeDiff,reduceIte,reduceCtorEq,Nat.reduceBEq,i64,iD,bD,Re.cells_eq re,List.map_cons,List.map_nil,h1,h3,h4,Int.lt_irrefl,o7,o8,o9,o4]
end Go.Proofs.Ytpppfpaalcbggaa
