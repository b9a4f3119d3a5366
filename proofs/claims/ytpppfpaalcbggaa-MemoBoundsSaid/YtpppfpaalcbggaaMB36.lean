/- A part of the proof (MM22). -/
import Derived.Test.YtpppfpaalcbggaaMB35
set_option linter.unusedSimpArgs false
set_option linter.unusedVariables false
set_option maxRecDepth 100000
set_option maxHeartbeats 80000000
namespace Go.Proofs.Ytpppfpaalcbggaa
open Go.VL
def topM:Int:=4398046511104
theorem quo_ediv {b:Int} (_hb:0 < b):(1099511627776:Int).tdiv b=1099511627776 / b:=Int.tdiv_eq_ediv_of_nonneg (by decide)
theorem product_ok (a b:Int) (ha:0 < a) (hb:0 < b) (ha2:a≤topM) (hb2:b≤topM):PureOK Try.prog 24 [i64 a,i64 b] (i64 (prodM a b)):=by
 unfold topM at *
 unfold prodM overM
 have hq:=quo_ediv hb
 have hb0:¬b=0:=by omega
 have hq1:0≤1099511627776 / b:=Int.ediv_nonneg (by decide) (by omega)
 have hq2:1099511627776 / b≤1099511627776:=Int.ediv_le_self _ (by decide)
 by_cases c:1099511627776 / b < a
 ·rw[if_pos c]
  have w1:IntKind.i64.wrap (1099511627776 / b)=1099511627776 / b:=w64 _ (by omega)
  refine fn_ok Try.func24 rfl Try.ntmps24 Try.results24 rfl 0 19 (by simp) (by simp) ?_
  simp only[zX,Nat.reduceShiftRight,Nat.reduceMod,Nat.reduceLT,Nat.reduceMul,Nat.reduceSub,Int.reduceToNat,Int.reduceNeg,Int.reduceLT,Int.reduceLE,Int.reduceEq,Nat.reduceEqDiff,Nat.reduceAdd,Nat.reduceLeDiff,reduceIte,reduceCtorEq,Nat.reduceBEq,i64,hb0,hq,w1,gt_iff_lt,c]
 ·rw[if_neg c]
  have hm:a * b≤1099511627776:=Int.mul_le_of_le_ediv hb (by omega)
  have hm0:0 < a * b:=Int.mul_pos ha hb
  have w1:IntKind.i64.wrap (1099511627776 / b)=1099511627776 / b:=w64 _ (by omega)
  have w2:IntKind.i64.wrap (a * b)=a * b:=w64 _ (by omega)
  refine fn_ok Try.func24 rfl Try.ntmps24 Try.results24 rfl 0 19 (by simp) (by simp) ?_
  simp only[zX,Nat.reduceShiftRight,Nat.reduceMod,Nat.reduceLT,Nat.reduceMul,Nat.reduceSub,Int.reduceToNat,Int.reduceNeg,Int.reduceLT,Int.reduceLE,Int.reduceEq,Nat.reduceEqDiff,Nat.reduceAdd,Nat.reduceLeDiff,reduceIte,reduceCtorEq,Nat.reduceBEq,i64,hb0,hq,w1,w2,gt_iff_lt,c]
theorem over_top:overM≤topM:=by decide
theorem power_ok (a:Int) (ha:0 < a) (ha2:a≤topM) (n:Nat) (hn:n≤1000000000):PureOK Try.prog 23 [i64 a,i64 n] (i64 (powM a n)):=by
 refine fn_ok Try.func23 rfl Try.ntmps23 Try.results23 rfl 0 243 (by simp) (by simp) ?_
 simp only[zX,Nat.reduceShiftRight,Nat.reduceMod,Nat.reduceLT,Nat.reduceMul,Nat.reduceSub,Int.reduceToNat,Int.reduceNeg,Int.reduceLT,Int.reduceLE,Int.reduceEq,Nat.reduceEqDiff,Nat.reduceAdd,Nat.reduceLeDiff,reduceIte,reduceCtorEq,Nat.reduceBEq,i64]
 refine loop_rule (fun m e s=>∃i:Nat,m=n - i∧i≤n∧e 0=i64 a∧e 5=i64 (powM a i)∧e 6=i64 n∧e 7=i64 i∧s=[])
  ⟨_,_,_,Cln.refl,0,rfl,by omega,rfl,rfl,rfl,rfl,rfl⟩ ?_
 rintro m e s ⟨i,rfl,hi,h0,h5,h6,h7,rfl⟩
 rcases Nat.lt_or_ge i n with hlt | hge
 ·have hlt':(i:Int) < (n:Int):=by omega
  have hp:=product_ok (powM a i) a (powM_pos ha i) ha (Int.le_trans (powM_le ha i) over_top) ha2
  simp only[zX,Nat.reduceShiftRight,Nat.reduceMod,Nat.reduceLT,Nat.reduceMul,Nat.reduceSub,Int.reduceToNat,Int.reduceNeg,Int.reduceLT,Int.reduceLE,Int.reduceEq,Nat.reduceEqDiff,Nat.reduceAdd,Nat.reduceLeDiff,reduceIte,reduceCtorEq,Nat.reduceBEq,i64,h0,h5,h6,h7,hlt']
  refine call_pure hp rfl rfl ?_
  simp only[zX,Nat.reduceShiftRight,Nat.reduceMod,Nat.reduceLT,Nat.reduceMul,Nat.reduceSub,Int.reduceToNat,Int.reduceNeg,Int.reduceLT,Int.reduceLE,Int.reduceEq,Nat.reduceEqDiff,Nat.reduceAdd,Nat.reduceLeDiff,reduceIte,reduceCtorEq,Nat.reduceBEq,i64,h0,h5,h6,h7]
  refine⟨n - (i + 1),_,_,by omega,Cln.refl,i + 1,rfl,hlt,?_,?_,?_,?_,rfl⟩ <;> (try simp only[zU,Nat.reduceBEq,Nat.reduceShiftRight,Nat.reduceMod,Nat.reduceEqDiff,reduceIte])
  ·exact h0
  ·rfl
  ·exact h6
  ·rw[w64 _ (by omega)]; rfl
 ·have hie:i=n:=by omega
  subst hie
  simp only[zX,Nat.reduceShiftRight,Nat.reduceMod,Nat.reduceLT,Nat.reduceMul,Nat.reduceSub,Int.reduceToNat,Int.reduceNeg,Int.reduceLT,Int.reduceLE,Int.reduceEq,Nat.reduceEqDiff,Nat.reduceAdd,Nat.reduceLeDiff,reduceIte,reduceCtorEq,Nat.reduceBEq,i64,h0,h5,h6,h7,Int.lt_irrefl]
theorem measL_append (a b:List Re) (x:Int × Int × Int):measL (a++b) x=measL b (measL a x):=by
 induction a generalizing x with
 | nil=>simp [measL]
 | cons k l ih=>simp only[List.cons_append,measL,ih]
theorem measM_eq (re:Re):measM re=opMeas re.op re.mn re.mx re.mode (nulH re.kids) (measL re.kids (1,0,0)):=by
 cases re; simp [measM,Re.op,Re.mn,Re.mx,Re.mode,Re.kids]
structure MeasIn (x:Int × Int × Int) (n:Nat):Prop where
 w0:0 < x.1
 w1:x.1≤overM
 l0:0≤x.2.1
 l1:x.2.1≤n
 d0:0≤x.2.2
 d1:x.2.2≤n
theorem val_rnd {re:Re} (h:valB re=true) (o:re.op=4):0 < rndR re.mn re.mx∧rndR re.mn re.mx≤33:=by
 have:=(of_decide_eq_true h).2.2.1 o
 unfold rndR
 split <;> omega
mutual
theorem meas_in:∀re:Re,re.every valB=true→MeasIn (measM re) re.size
 | .mk op set kids mn mx mode n neg,h=>by
  obtain⟨h1,h2⟩:=(Re.every_iff _).1 h
  have hk:=measL_in kids h2 (1,0,0) 0 ⟨by decide,by decide,by decide,by decide,by decide,by decide⟩
  rw[measM]
  have hs:(Re.mk op set kids mn mx mode n neg).size=1 + Re.sizeL kids:=rfl
  rw[hs]
  generalize measL kids (1,0,0)=x at *
  obtain⟨a1,a2,a3,a4,a5,a6⟩:=hk
  unfold opMeas
  split
  ·exact⟨a1,a2,a3,by simp only; omega,by simp only; omega,by simp only; omega⟩
  ·split
   ·rename_i o
    have hr:=val_rnd h1 o
    have hr1:0 < (if mx=-1 then mn + 1 else mx + 1):=hr.1
    have hm:0 < min (x.1 + 1) overM:=by unfold overM at *; omega
    refine⟨prodM_pos hm hr1,prodM_le hr1,?_,?_,?_,?_⟩ <;> simp only <;> split <;> omega
   ·exact⟨a1,a2,a3,by omega,a5,by omega⟩
theorem measL_in:∀(l:List Re),(∀k∈l,k.every valB=true)→∀(x:Int × Int × Int) (n:Nat),MeasIn x n→MeasIn (measL l x) (n + Re.sizeL l)
 | [],_,x,n,h=>by simpa [measL,Re.sizeL] using h
 | k::l,hl,x,n,h=>by
  have h1:=meas_in k (hl k (by simp))
  obtain⟨a1,a2,a3,a4,a5,a6⟩:=h
  obtain⟨b1,b2,b3,b4,b5,b6⟩:=h1
  rw[measL,Re.sizeL,← Nat.add_assoc]
  refine measL_in l (fun y hy=>hl y (by simp [hy])) _ (n + k.size) ⟨?_,?_,?_,?_,?_,?_⟩ <;> simp only <;> (try unfold overM at *) <;> omega
end
theorem measures_ok (re:Re):re.fine=true→re.every valB=true→re.size≤1000000000→PureOK Try.prog 22 [.d (.el re.cells)] (.tu [i64 (measM re).1,i64 (measM re).2.1,i64 (measM re).2.2]):=by
 induction re using Re.ind with
 | h re ih =>
 intro hf hv hsz
 obtain⟨hset1,hlen,hfk⟩:=Re.fine_spec hf
 obtain⟨hv1,hv2⟩:=(Re.every_iff _).1 hv
 have hsz2:=Re.size_eq re
 have hstep:∀i k,re.kids[i]?=some k→measL (re.kids.take (i + 1)) (1,0,0)=(min ((measL (re.kids.take i) (1,0,0)).1 + (measM k).1) overM,max (measL (re.kids.take i) (1,0,0)).2.1 (measM k).2.1,max (measL (re.kids.take i) (1,0,0)).2.2 (measM k).2.2):=by
  intro i k hk
  rw[take_get hk,measL_append,measL,measL]
 have hin:∀i,MeasIn (measL (re.kids.take i) (1,0,0)) (0 + Re.sizeL (re.kids.take i)):=fun i=>measL_in _ (fun k hk=>hv2 k (List.mem_of_mem_take hk)) _ _ ⟨by decide,by decide,by decide,by decide,by decide,by decide⟩
 rw[measM_eq]
 refine fn_ok Try.func22 rfl Try.ntmps22 Try.results22 rfl 0 26388279116797 (by simp) (by simp) ?_
 simp only[zX,Nat.reduceShiftRight,Nat.reduceMod,Nat.reduceLT,Nat.reduceMul,Nat.reduceSub,Int.reduceToNat,Int.reduceNeg,Int.reduceLT,Int.reduceLE,Int.reduceEq,Nat.reduceEqDiff,Nat.reduceAdd,Nat.reduceLeDiff,reduceIte,reduceCtorEq,Nat.reduceBEq,i64,iD,bD,Re.cells_eq re]
 refine loop_rule (fun n e s=>∃i:Nat,n=re.kids.length - i∧i≤re.kids.length∧e 0=.d (.el re.cells)∧e 2=i64 (measL (re.kids.take i) (1,0,0)).1∧e 3=i64 (measL (re.kids.take i) (1,0,0)).2.1∧e 4=i64 (measL (re.kids.take i) (1,0,0)).2.2∧e 14=i64 re.kids.length∧e 15=i64 i∧s=[])
  ⟨_,_,_,Cln.refl,0,rfl,by omega,by rw[Re.cells_eq re]; rfl,by simp [measL]; rfl,by simp [measL]; rfl,by simp [measL]; rfl,by (try simp); rfl,rfl,rfl⟩ ?_
 rintro n e s ⟨i,rfl,hi,h0,h2,h3,h4,h14,h15,rfl⟩
 have hTi:=Re.sizeL_take re.kids i
 obtain⟨a1,a2,a3,a4,a5,a6⟩:=hin i
 rcases Nat.lt_or_ge i re.kids.length with hlt | hge
 ·obtain⟨k,hk⟩:∃k,re.kids[i]?=some k:=⟨_,List.getElem?_eq_getElem hlt⟩
  have hm:=List.mem_of_getElem? hk
  have hks:=Re.size_kid hm
  have hkin:=meas_in k (hv2 k hm)
  obtain⟨b1,b2,b3,b4,b5,b6⟩:=hkin
  have hc:=ih k hm (hfk k hm) (hv2 k hm) (by omega)
  have hst:=hstep i k hk
  generalize measL (re.kids.take i) (1,0,0)=x at *
  generalize measM k=y at *
  have w1:IntKind.i64.wrap (x.1 + y.1)=x.1 + y.1:=w64 _ (by unfold overM at *; omega)
  simp only[i64] at hc
  simp only[zX,Nat.reduceShiftRight,Nat.reduceMod,Nat.reduceLT,Nat.reduceMul,Nat.reduceSub,Int.reduceToNat,Int.reduceNeg,Int.reduceLT,Int.reduceLE,Int.reduceEq,Nat.reduceEqDiff,Nat.reduceAdd,Nat.reduceLeDiff,reduceIte,reduceCtorEq,Nat.reduceBEq,i64,iD,bD,Re.cells_eq re,h0,h2,h3,h4,h14,h15,hlt,hk]
  refine call_pure hc rfl rfl ?_
  simp only[zX,Nat.reduceShiftRight,Nat.reduceMod,Nat.reduceLT,Nat.reduceMul,Nat.reduceSub,Int.reduceToNat,Int.reduceNeg,Int.reduceLT,Int.reduceLE,Int.reduceEq,Nat.reduceEqDiff,Nat.reduceAdd,Nat.reduceLeDiff,reduceIte,reduceCtorEq,Nat.reduceBEq,i64,iD,bD,h0,h2,h3,h4,h14,h15,w1]
  refine⟨re.kids.length - (i + 1),_,_,by omega,Cln.refl,i + 1,rfl,hlt,?_,?_,?_,?_,?_,?_,rfl⟩ <;> (try simp only[zU,Nat.reduceBEq,Nat.reduceShiftRight,Nat.reduceMod,Nat.reduceEqDiff,reduceIte])
  ·rw[h0,Re.cells_eq re]; rfl
  ·rw[hst]; rfl
  ·rw[hst]
  ·rw[hst]
  ·exact h14
  ·rw[w64 _ (by omega)]; rfl
 ·have hie:i=re.kids.length:=by omega
  subst hie
  rw[List.take_length] at *
  generalize measL re.kids (1,0,0)=x at *
  obtain⟨x1,x2,x3⟩:=x
  simp only at a1 a2 a3 a4 a5 a6 h2 h3 h4
  unfold opMeas
  by_cases o7:re.op=7∨re.op=8∨re.op=9
  ·rw[if_pos o7]
   have w1:IntKind.i64.wrap (x3 + 1)=x3 + 1:=w64 _ (by omega)
   rcases o7 with o | o | o
   all_goals
    simp only[zX,Nat.reduceShiftRight,Nat.reduceMod,Nat.reduceLT,Nat.reduceMul,Nat.reduceSub,Int.reduceToNat,Int.reduceNeg,Int.reduceLT,Int.reduceLE,Int.reduceEq,Nat.reduceEqDiff,Nat.reduceAdd,Nat.reduceLeDiff,reduceIte,reduceCtorEq,Nat.reduceBEq,i64,iD,bD,Re.cells_eq re,h0,h2,h3,h4,h14,h15,Int.lt_irrefl,o,w1]
  rw[if_neg o7]
  have n7:¬re.op=7:=fun h=>o7 (.inl h)
  have n8:¬re.op=8:=fun h=>o7 (.inr (.inl h))
  have n9:¬re.op=9:=fun h=>o7 (.inr (.inr h))
  by_cases o4:re.op=4
  ·rw[if_pos o4]
   have hr:=val_rnd hv1 o4
   have hvk:=(of_decide_eq_true hv1).2.2.1 o4
   obtain⟨k,hk⟩:∃k,re.kids[0]?=some k:=⟨_,List.getElem?_eq_getElem (by omega)⟩
   have hl0:(0:Int) < (re.kids.length:Int):=by omega
   have hnu:=nullable_ok k (hfk k (List.mem_of_getElem? hk))
   have hnk:nulH re.kids=k.anul:=by
    cases hh:re.kids with
    | nil=>rw[hh] at hk; cases hk
    | cons y l=>rw[hh] at hk; simp only[List.getElem?_cons_zero,Option.some.injEq] at hk; subst hk; rfl
   rw[hnk]
   have wx:IntKind.i64.wrap (re.mx + 1)=re.mx + 1:=w64 _ (by omega)
   have wn:IntKind.i64.wrap (re.mn + 1)=re.mn + 1:=w64 _ (by omega)
   have w1:IntKind.i64.wrap (x1 + 1)=x1 + 1:=w64 _ (by unfold overM at *; omega)
   have w2:IntKind.i64.wrap (x2 + 1)=x2 + 1:=w64 _ (by omega)
   have w3:IntKind.i64.wrap (x3 + 1)=x3 + 1:=w64 _ (by omega)
   have hp:=fun r (h1:0 < r) (h2:r≤33)=>product_ok (min (x1 + 1) overM) r (by unfold overM at *; omega) h1 (by unfold overM topM at *; omega) (by unfold topM; omega)
   obtain⟨r,hrr⟩:∃r,(if re.mx=-1 then re.mn + 1 else re.mx + 1)=r:=⟨_,rfl⟩
   have hr2:0 < r∧r≤33:=by rw[← hrr]; exact hr
   have hp:=hp r hr2.1 hr2.2
   simp only[hrr]
   unfold overM at hp ⊢
   simp only[i64] at hp
   have hcm:(re.mx=-1∧re.mn + 1=r)∨(¬re.mx=-1∧re.mx + 1=r):=by
    by_cases cm:re.mx=-1
    ·rw[if_pos cm] at hrr; exact .inl ⟨cm,hrr⟩
    ·rw[if_neg cm] at hrr; exact .inr ⟨cm,hrr⟩
   have h10:(-1:Int) + 1=0:=by decide
   have w0:IntKind.i64.wrap 0=0:=w64 _ (by omega)
   rcases hcm with ⟨cm,ce⟩ | ⟨cm,ce⟩
   all_goals
    rw[← ce] at hp
    simp only[zX,Nat.reduceShiftRight,Nat.reduceMod,Nat.reduceLT,Nat.reduceMul,Nat.reduceSub,Int.reduceToNat,Int.reduceNeg,Int.reduceLT,Int.reduceLE,Int.reduceEq,Nat.reduceEqDiff,Nat.reduceAdd,Nat.reduceLeDiff,reduceIte,reduceCtorEq,Nat.reduceBEq,i64,iD,bD,Re.cells_eq re,h0,h2,h3,h4,h14,h15,Int.lt_irrefl,o4,n7,n8,n9,cm,wx,wn,w1,w0,h10]
    refine call_pure hp rfl rfl ?_
    simp only[zX,Nat.reduceShiftRight,Nat.reduceMod,Nat.reduceLT,Nat.reduceMul,Nat.reduceSub,Int.reduceToNat,Int.reduceNeg,Int.reduceLT,Int.reduceLE,Int.reduceEq,Nat.reduceEqDiff,Nat.reduceAdd,Nat.reduceLeDiff,reduceIte,reduceCtorEq,Nat.reduceBEq,i64,iD,bD,Re.cells_eq re,h0,h2,h3,h4,h14,h15,o4,cm,hl0,hk,List.length_map]
    refine call_pure hnu (by simp [refsV,refsV.go,reV_eq,i64,bV,reEl]) (by simp [refsV,refsV.go,reV_eq,i64,bV,reEl]) ?_
    cases hkn:k.anul <;> by_cases cmo:re.mode=2
    all_goals
     simp only[zX,Nat.reduceShiftRight,Nat.reduceMod,Nat.reduceLT,Nat.reduceMul,Nat.reduceSub,Int.reduceToNat,Int.reduceNeg,Int.reduceLT,Int.reduceLE,Int.reduceEq,Nat.reduceEqDiff,Nat.reduceAdd,Nat.reduceLeDiff,reduceIte,reduceCtorEq,Nat.reduceBEq,i64,iD,bD,bV,Re.cells_eq re,h0,h2,h3,h4,h14,h15,o4,cm,hkn,cmo,w2,w3,if_true,Int.add_zero,Bool.false_eq_true,if_false]
     (try rw[← ce])
     (try simp only[cm])
     (try rfl)
  ·rw[if_neg o4]
   simp only[zX,Nat.reduceShiftRight,Nat.reduceMod,Nat.reduceLT,Nat.reduceMul,Nat.reduceSub,Int.reduceToNat,Int.reduceNeg,Int.reduceLT,Int.reduceLE,Int.reduceEq,Nat.reduceEqDiff,Nat.reduceAdd,Nat.reduceLeDiff,reduceIte,reduceCtorEq,Nat.reduceBEq,i64,iD,bD,Re.cells_eq re,h0,h2,h3,h4,h14,h15,Int.lt_irrefl,o4,n7,n8,n9]
end Go.Proofs.Ytpppfpaalcbggaa
