/- A part of the proof (K77 K78). -/
import Derived.Test.YtdofoappodmcoaaKP24
set_option linter.unusedSimpArgs false
set_option linter.unusedVariables false
set_option maxRecDepth 100000
set_option maxHeartbeats 80000000
namespace Go.Proofs.Ytdofoappodmcoaa
open Go.VL Go.Proofs.Try
def repH (c:Int→List Ins):Nat→Int→List Ins
 | 0,_=>[]
 | k + 1,f=>repH c k f++zeroI::c (f + (repH c k f).length + 1)
def repHP (c:Int→List Ins):Nat→Int→List Int
 | 0,_=>[]
 | k + 1,f=>repHP c k f++[f + (repH c k f).length]
theorem repH_len (c:Int→List Ins) (mode E:Int):∀(k:Nat) (f:Int),(repPost c mode E k f).length=(repH c k f).length
 | 0,_=>rfl
 | k + 1,f=>by simp only[repH,repPost,List.length_append,List.length_cons,repH_len c mode E k f]
theorem repHP_len (c:Int→List Ins):∀(k:Nat) (f:Int),(repHP c k f).length=k
 | 0,_=>rfl
 | k + 1,f=>by simp only[repHP,List.length_append,List.length_cons,List.length_nil,repHP_len c k f]
theorem repHP_in (c:Int→List Ins):∀(k:Nat) (f x:Int),x∈repHP c k f→f≤x∧x < f + (repH c k f).length
 | 0,_,_,h=>by simp [repHP] at h
 | k + 1,f,x,h=>by
  simp only[repHP,List.mem_append,List.mem_singleton] at h
  simp only[repH,List.length_cons,List.length_append,Int.natCast_add]
  rcases h with h | rfl
  ·have:=repHP_in c k f x h
   omega
  ·omega
def setS (mode E:Int) (C:List Ins) (a:Int):List Ins:=C.set a.toNat (splI mode (a + 1) E)
theorem setS_len (mode E:Int) (C:List Ins) (a:Int):(setS mode E C a).length=C.length:=by simp [setS]
theorem setSs_len (mode E:Int):∀(J:List Int) (C:List Ins),(J.foldl (setS mode E) C).length=C.length
 | [],_=>rfl
 | a::J,C=>by rw[List.foldl_cons,setSs_len mode E J,setS_len]
theorem fix_rep (c:Int→List Ins) (mode E:Int):∀(k:Nat) (base rest:List Ins),(repHP c k base.length).foldl (setS mode E) (base++repH c k base.length++rest)=base++repPost c mode E k base.length++rest
 | 0,base,rest=>by simp [repHP,repH,repPost]
 | k + 1,base,rest=>by
  have ih:=fix_rep c mode E k base (zeroI::(c (base.length + (repH c k base.length).length + 1)++rest))
  have e1:base++repH c (k + 1) base.length++rest=base++repH c k base.length++zeroI::(c (base.length + (repH c k base.length).length + 1)++rest):=by
   simp [repH]
  have e2:((base.length:Int) + (repH c k base.length).length).toNat=(base++repPost c mode E k base.length).length:=by
   rw[List.length_append,repH_len]; omega
  rw[e1,repHP,List.foldl_append,ih,List.foldl_cons,List.foldl_nil,setS,e2,List.set_append_right _ _ (Nat.le_refl _),Nat.sub_self]
  simp only[List.set_cons_zero,repPost,repH_len,List.append_assoc,List.cons_append]
def repT (mx f:Int):List Ins:=if mx=-1 then [jmpI f] else []
def repM (mn mx:Int):Nat:=if mx=-1 then 1 else (mx - mn).toNat
theorem repC_eq (c:Int→List Ins) (mn mx mode sz f:Int) (h:mx=-1∨sz=(repPre c mn.toNat f).length + (repH c (mx - mn).toNat (f + (repPre c mn.toNat f).length)).length) :
  repC c mn mx mode sz f=repPre c mn.toNat f++repPost c mode (f + (repPre c mn.toNat f).length + (repH c (repM mn mx) (f + (repPre c mn.toNat f).length)).length + (repT mx (f + (repPre c mn.toNat f).length)).length) (repM mn mx) (f + (repPre c mn.toNat f).length)++repT mx (f + (repPre c mn.toNat f).length):=by
 unfold repC repT repM
 by_cases hm:mx=-1
 ·simp only[if_pos hm,repPost,repH,List.nil_append,List.length_nil,List.length_cons,List.append_assoc,List.cons_append]
  have e:f + ((repPre c mn.toNat f).length:Int) + ((0:Nat):Int) + 1=f + (repPre c mn.toNat f).length + 1:=by omega
  rw[e]
  congr 3
  omega
 ·rw[if_neg hm,if_neg hm,if_neg hm,List.append_nil]
  congr 2
  rcases h with h | h
  ·exact absurd h hm
  ·rw[h]; simp; omega
theorem splitP_ok (a b mode:Int):PureOK prog 82 [i64 a,i64 b,i64 mode] (putV (splI mode a b)):=by
 unfold splI
 by_cases hm:mode=1
 ·rw[if_pos hm]
  refine fn_ok func82 rfl ntmps82 results82 rfl 0 71 (by simp) (by simp) ?_
  simp only[zX,Nat.reduceShiftRight,Nat.reduceMod,Nat.reduceLT,Nat.reduceMul,Nat.reduceSub,Int.reduceToNat,Int.reduceNeg,Int.reduceLT,Int.reduceLE,Int.reduceEq,Nat.reduceEqDiff,Nat.reduceAdd,Nat.reduceLeDiff,reduceIte,reduceCtorEq,Nat.reduceBEq,i64,bV,iD,bD,hm]
  rfl
 ·rw[if_neg hm]
  refine fn_ok func82 rfl ntmps82 results82 rfl 0 71 (by simp) (by simp) ?_
  simp only[zX,Nat.reduceShiftRight,Nat.reduceMod,Nat.reduceLT,Nat.reduceMul,Nat.reduceSub,Int.reduceToNat,Int.reduceNeg,Int.reduceLT,Int.reduceLE,Int.reduceEq,Nat.reduceEqDiff,Nat.reduceAdd,Nat.reduceLeDiff,reduceIte,reduceCtorEq,Nat.reduceBEq,i64,bV,iD,bD,hm]
  rfl
theorem condF_join {P:Program} {N L M:Nat} {a b:Code} {R:VL.Env→List VL.Obj→Prop} {Q:Exit→VL.Env→List VL.Obj→Prop} {e:VL.Env} {s:List VL.Obj} {p:Prop} [Decidable p] (J:VL.Env→List VL.Obj→Prop)
  (h1:p→∀(B:VL.Env→List VL.Obj→Prop) (Q:Exit→VL.Env→List VL.Obj→Prop),(∀e s,J e s→B e s)→codeWp P N L M a (Qseq B Q) e s)
  (h2:¬p→∀(B:VL.Env→List VL.Obj→Prop) (Q:Exit→VL.Env→List VL.Obj→Prop),(∀e s,J e s→B e s)→codeWp P N L M b (Qseq B Q) e s)
  (h3:∀e s,J e s→R e s):condF (.d (.sc (.bool (decide p)))) (codeWp P N L M a (Qseq R Q)) (codeWp P N L M b (Qseq R Q)) e s :=
 condS (fun h=>h1 h _ _ h3) (fun h=>h2 h _ _ h3)
def rSt (C:List Ins) (J:List Int) (g:Nat):List VL.Obj:=wCode C++[insO g J]
theorem repeatP_ok (re k:Re) (hs:re.every kshD=true) (hz:re.csz≤8500) (o4:re.op=4) (hk:re.kids=[k]) (hW:WOK k):ROK re:=by
 intro C hC
 obtain⟨hs1,hs2⟩:=(Re.every_iff re).1 hs
 obtain⟨hcc,hop,h1k,hk0⟩:=kshD_iff.1 hs1
 obtain⟨hb,hmx⟩:=kshC_iff.1 hcc
 obtain⟨q1,q2,q3,q4,q5,q6,q7,q8,q9,q10⟩:=kshB_iff.1 hb
 have hlen:=code_len re hs (by omega) C.length
 have hkz:=(csz_kid hs (by omega) ⟨by omega,by omega⟩).2 k (by rw[hk]; simp)
 have hkl:=code_len k (hs2 k (by rw[hk]; simp)) hkz
 have hkr:=csz_range k (every_DC (hs2 k (by rw[hk]; simp)))
 have hkg:re.kids[0]?=some k:=by rw[hk]; rfl
 have hkn:(0:Int) < (re.kids.length:Int):=by rw[hk]; simp
 have hkn2:0 < re.kids.length:=by rw[hk]; simp
 have hks:k.size + 1≤re.size:=Re.size_kid (by rw[hk]; simp)
 have hpl:∀i:Nat,((repPre k.code i C.length).length:Int)=i * k.csz:=fun i=>repPre_len hkl i C.length
 have hpb:∀i:Nat,(i:Int)≤re.mn→(repPre k.code i C.length).length≤300000:=fun i hi=>by
  have h1:=hpl i
  have h2:(i:Int) * k.csz≤32 * 9000:=Int.mul_le_mul (by omega) hkz hkr.1 (by omega)
  omega
 have hsz:re.mx=-1∨re.csz=(repPre k.code re.mn.toNat C.length).length + (repH k.code (re.mx - re.mn).toNat (C.length + (repPre k.code re.mn.toNat C.length).length)).length:=by
  rcases Int.decEq re.mx (-1) with h | h
  ·refine .inr ?_
   rw[Re.code_eq,if_neg (by omega),if_neg (by omega),if_neg (by omega),if_neg (by omega),if_neg (by omega),if_pos o4,code0_one hk,repC,if_neg h,List.length_append,repH_len] at hlen
   omega
  ·exact .inl h
 have hrc:=repC_eq k.code re.mn re.mx re.mode re.csz C.length hsz
 have hl1:(((C++repPre k.code re.mn.toNat C.length).length:Nat):Int)=C.length + (repPre k.code re.mn.toNat C.length).length:=by simp
 rw[← hl1] at hrc
 have hm32:repM re.mn re.mx≤32:=by unfold repM; split <;> omega
 have hHb:∀i f,i≤repM re.mn re.mx→(repH k.code i f).length≤300000:=fun i f hi=>by
  have h1:=repPost_len hkl 0 0 i f
  rw[repH_len] at h1
  have h2:(i:Int) * (k.csz + 1)≤32 * 9001:=Int.mul_le_mul (by omega) (by omega) (by omega) (by omega)
  omega
 have hfin:C++repC k.code re.mn re.mx re.mode re.csz C.length=(repHP k.code (repM re.mn re.mx) (C++repPre k.code re.mn.toNat C.length).length).foldl (setS re.mode (((C++repPre k.code re.mn.toNat C.length)++repH k.code (repM re.mn re.mx) (C++repPre k.code re.mn.toNat C.length).length++repT re.mx (C++repPre k.code re.mn.toNat C.length).length).length)) ((C++repPre k.code re.mn.toNat C.length)++repH k.code (repM re.mn re.mx) (C++repPre k.code re.mn.toNat C.length).length++repT re.mx (C++repPre k.code re.mn.toNat C.length).length):=by
  rw[fix_rep,hrc]
  simp only[List.length_append,List.append_assoc,Int.natCast_add,Int.add_assoc]
 rw[code0_one hk,hfin]
 clear hrc hfin hsz hlen hl1
 refine fn_ok func81 rfl ntmps81 results81 rfl 6 258254417444250595695 (Nat.le_refl 6) (by first | decide | (simp [wArgs,rArgs,aArgs]; done)) ?_
 simp only[zX,Nat.reduceShiftRight,Nat.reduceMod,Nat.reduceLT,Nat.reduceMul,Nat.reduceSub,Int.reduceToNat,Int.reduceNeg,Int.reduceLT,Int.reduceLE,Int.reduceEq,Nat.reduceEqDiff,Nat.reduceAdd,Nat.reduceLeDiff,reduceIte,reduceCtorEq,Nat.reduceBEq,i64,bV,iD,bD,rArgs,Re.cells_eq re,List.length_map]
 refine loop_rule (fun n e s=>∃i:Nat,n=re.mn.toNat - i∧(i:Int)≤re.mn∧e 0=.d (.el re.cells)∧e 1=.rf 2 0 0 0∧e 2=.rf 1 0 0 0∧e 3=.rf 0 0 0 0∧e 12=i64 re.mn∧e 13=i64 i∧s=wSt (C++repPre k.code i C.length))
  ⟨_,_,_,Cln.refl,0,rfl,q5,by rw[Re.cells_eq re]; rfl,rfl,rfl,rfl,rfl,rfl,by simp [repPre,wSt]⟩ ?_
 rintro n e s ⟨i,rfl,hi,h0,h1,h2,h3,h12,h13,rfl⟩
 by_cases hlt:(i:Int) < re.mn
 ·have hw:=hW (C++repPre k.code i C.length) (by have:=hpb i hi; rw[List.length_append]; omega)
  have hsucc:C++repPre k.code i C.length++k.code (C++repPre k.code i C.length).length=C++repPre k.code (i + 1) C.length:=by
   simp only[repPre,List.append_assoc,List.length_append,Int.natCast_add]
  rw[hsucc] at hw
  generalize C++repPre k.code i C.length=C1 at *
  generalize hC2:C++repPre k.code (i + 1) C.length=C2 at *
  rw[show wSt C1=wCode C1 from rfl]
  simp only[zX,Nat.reduceShiftRight,Nat.reduceMod,Nat.reduceLT,Nat.reduceMul,Nat.reduceSub,Int.reduceToNat,Int.reduceNeg,Int.reduceLT,Int.reduceLE,Int.reduceEq,Nat.reduceEqDiff,Nat.reduceAdd,Nat.reduceLeDiff,reduceIte,reduceCtorEq,Nat.reduceBEq,i64,bV,iD,bD,h0,h1,h2,h3,h12,h13,Re.cells_eq re,hlt]
  refine draw_c mix [6] [] (by rfl) ?_
  simp only[zX,Nat.reduceShiftRight,Nat.reduceMod,Nat.reduceLT,Nat.reduceMul,Nat.reduceSub,Int.reduceToNat,Int.reduceNeg,Int.reduceLT,Int.reduceLE,Int.reduceEq,Nat.reduceEqDiff,Nat.reduceAdd,Nat.reduceLeDiff,reduceIte,reduceCtorEq,Nat.reduceBEq,i64,bV,iD,bD,wCode,cVar,h0,h1,h2,h3,h12,h13,Re.cells_eq re,hlt,hkn,hkn2,Int.toNat_natCast,hkg,List.length_map,List.cons_append,List.nil_append,List.append_nil]
  refine callD_of (call_w hw (by rfl) (by rfl) (tl:=[]) ⟨rfl,rfl⟩) ?_
  simp only[zX,Nat.reduceShiftRight,Nat.reduceMod,Nat.reduceLT,Nat.reduceMul,Nat.reduceSub,Int.reduceToNat,Int.reduceNeg,Int.reduceLT,Int.reduceLE,Int.reduceEq,Nat.reduceEqDiff,Nat.reduceAdd,Nat.reduceLeDiff,reduceIte,reduceCtorEq,Nat.reduceBEq,i64,bV,iD,bD,h0,h1,h2,h3,h12,h13,List.append_nil]
  refine⟨re.mn.toNat - (i + 1),_,_,by omega,Cln.refl,i + 1,by omega,by omega,?_,?_,?_,?_,?_,?_,by rw[hC2]; rfl⟩ <;> (try simp only[zU,Nat.reduceBEq,Nat.reduceShiftRight,Nat.reduceMod,Nat.reduceEqDiff,reduceIte])
  ·rw[h0,Re.cells_eq re]; rfl
  ·exact h1
  ·exact h2
  ·exact h3
  ·exact h12
  ·rw[w64 _ (by omega)]; rfl
 ·have hie:i=re.mn.toNat:=by omega
  subst hie
  have hwx:IntKind.i64.wrap (re.mx - re.mn)=re.mx - re.mn:=w64 _ (by omega)
  simp only[zX,Nat.reduceShiftRight,Nat.reduceMod,Nat.reduceLT,Nat.reduceMul,Nat.reduceSub,Int.reduceToNat,Int.reduceNeg,Int.reduceLT,Int.reduceLE,Int.reduceEq,Nat.reduceEqDiff,Nat.reduceAdd,Nat.reduceLeDiff,reduceIte,reduceCtorEq,Nat.reduceBEq,i64,bV,iD,bD,h0,h1,h2,h3,h12,h13,hlt]
  refine draw_c mix [] [] (by rfl) ?_
  simp only[zX,Nat.reduceShiftRight,Nat.reduceMod,Nat.reduceLT,Nat.reduceMul,Nat.reduceSub,Int.reduceToNat,Int.reduceNeg,Int.reduceLT,Int.reduceLE,Int.reduceEq,Nat.reduceEqDiff,Nat.reduceAdd,Nat.reduceLeDiff,reduceIte,reduceCtorEq,Nat.reduceBEq,i64,bV,iD,bD,h0,h1,h2,h3,h12,h13,Re.cells_eq re,hwx]
  have hp0:=hpb re.mn.toNat hi
  have hC1:(C++repPre k.code re.mn.toNat C.length).length + 100000000 * k.size + 99600000≤1000000000000:=by rw[List.length_append]; omega
  clear hpb hpl
  generalize C++repPre k.code re.mn.toNat C.length=C1 at *
  refine condF_join (fun e s=>e 0=.d (.el re.cells)∧e 1=.rf 2 0 0 0∧e 2=.rf 1 0 0 0∧e 3=.rf 0 0 0 0∧e 5=i64 (repM re.mn re.mx)∧s=wSt C1) ?_ ?_ ?_
  ·intro hm B Q hB
   simp only[zX,Nat.reduceShiftRight,Nat.reduceMod,Nat.reduceLT,Nat.reduceMul,Nat.reduceSub,Int.reduceToNat,Int.reduceNeg,Int.reduceLT,Int.reduceLE,Int.reduceEq,Nat.reduceEqDiff,Nat.reduceAdd,Nat.reduceLeDiff,reduceIte,reduceCtorEq,Nat.reduceBEq,i64,bV,iD,bD,h0,h1,h2,h3,h12,h13]
   refine hB _ _ ⟨?_,?_,?_,?_,?_,?_⟩ <;> (try simp only[zU,Nat.reduceBEq,Nat.reduceShiftRight,Nat.reduceMod,Nat.reduceEqDiff,reduceIte])
   all_goals (first | exact h0 | exact h1 | exact h2 | exact h3 | rfl | (rw[repM,if_pos hm]; rfl))
  ·intro hm B Q hB
   simp only[zX,Nat.reduceShiftRight,Nat.reduceMod,Nat.reduceLT,Nat.reduceMul,Nat.reduceSub,Int.reduceToNat,Int.reduceNeg,Int.reduceLT,Int.reduceLE,Int.reduceEq,Nat.reduceEqDiff,Nat.reduceAdd,Nat.reduceLeDiff,reduceIte,reduceCtorEq,Nat.reduceBEq,i64,bV,iD,bD,h0,h1,h2,h3,h12,h13]
   refine hB _ _ ⟨?_,?_,?_,?_,?_,?_⟩ <;> (try simp only[zU,Nat.reduceBEq,Nat.reduceShiftRight,Nat.reduceMod,Nat.reduceEqDiff,reduceIte])
   all_goals (first | exact h0 | exact h1 | exact h2 | exact h3 | rfl | (rw[repM,if_neg hm,show (((re.mx - re.mn).toNat:Nat):Int)=re.mx - re.mn by omega]; rfl))
  clear h0 h1 h2 h3 h12 h13
  rintro e s ⟨h0,h1,h2,h3,h5,rfl⟩
  simp only[zX,Nat.reduceShiftRight,Nat.reduceMod,Nat.reduceLT,Nat.reduceMul,Nat.reduceSub,Int.reduceToNat,Int.reduceNeg,Int.reduceLT,Int.reduceLE,Int.reduceEq,Nat.reduceEqDiff,Nat.reduceAdd,Nat.reduceLeDiff,reduceIte,reduceCtorEq,Nat.reduceBEq,i64,bV,iD,bD,h0,h1,h2,h3,h5]
  generalize hM:repM re.mn re.mx=m at *
  refine loop_rule (fun n e s=>∃(i g:Nat),n=m - i∧i≤m∧e 0=.d (.el re.cells)∧e 1=.rf 2 0 0 0∧e 2=.rf 1 0 0 0∧e 3=.rf 0 0 0 0∧e 6=.so 6 g 0 i∧e 37=i64 m∧e 38=i64 i∧s=rSt (C1++repH k.code i C1.length) (repHP k.code i C1.length) g)
   ⟨_,_,_,.of0 (reserveSlot 6 1 rfl),0,0,rfl,by omega,h0,h1,h2,h3,rfl,rfl,rfl,by simp [rSt,repH,repHP,insO,wSt,wCode]⟩ ?_
  clear h0 h1 h2 h3 h5
  rintro n e s ⟨i,g,rfl,hi,h0,h1,h2,h3,h6,h37,h38,rfl⟩
  rcases Nat.lt_or_ge i m with hlt | hge
  ·have hlt':(i:Int) < (m:Int):=by omega
   have hb1:=hHb i C1.length hi
   have hJl:=repHP_len k.code i C1.length
   have hsn:C1++repH k.code (i + 1) C1.length=C1++repH k.code i C1.length++[(⟨0,0,0,0,[]⟩:Ins)]++k.code (C1++repH k.code i C1.length++[(⟨0,0,0,0,[]⟩:Ins)]).length:=by
    simp only[repH,zeroI,List.append_assoc,List.cons_append,List.nil_append,List.length_append,List.length_cons,List.length_nil,Int.natCast_add,Int.add_assoc]
    rfl
   have hsp:repHP k.code (i + 1) C1.length=repHP k.code i C1.length++[((C1++repH k.code i C1.length).length:Int)]:=by
    simp only[repHP,List.length_append,Int.natCast_add]
   have hw:=hW (C1++repH k.code i C1.length++[(⟨0,0,0,0,[]⟩:Ins)]) (by rw[List.length_append,List.length_append,List.length_singleton]; omega)
   rw[← hsn] at hw
   have hD1:(C1++repH k.code i C1.length).length≤1000000000000:=by rw[List.length_append]; omega
   rw[show rSt (C1++repH k.code i C1.length) (repHP k.code i C1.length) g=wCode (C1++repH k.code i C1.length)++[insO g (repHP k.code i C1.length)] from rfl]
   clear hsn
   generalize C1++repH k.code i C1.length=D1 at *
   generalize hD3:C1++repH k.code (i + 1) C1.length=D3 at *
   generalize repHP k.code i C1.length=J at *
   simp only[zX,Nat.reduceShiftRight,Nat.reduceMod,Nat.reduceLT,Nat.reduceMul,Nat.reduceSub,Int.reduceToNat,Int.reduceNeg,Int.reduceLT,Int.reduceLE,Int.reduceEq,Nat.reduceEqDiff,Nat.reduceAdd,Nat.reduceLeDiff,reduceIte,reduceCtorEq,Nat.reduceBEq,i64,bV,iD,bD,h0,h1,h2,h3,h6,h37,h38,wCode,cVar,List.cons_append,List.nil_append,List.append_nil,hlt']
   refine call_put0 D1 hD1 0 0 0 0 (tl:=[insO g J]) ?_
   generalize D1++[(⟨0,0,0,0,[]⟩:Ins)]=D2 at *
   simp only[zX,Nat.reduceShiftRight,Nat.reduceMod,Nat.reduceLT,Nat.reduceMul,Nat.reduceSub,Int.reduceToNat,Int.reduceNeg,Int.reduceLT,Int.reduceLE,Int.reduceEq,Nat.reduceEqDiff,Nat.reduceAdd,Nat.reduceLeDiff,reduceIte,reduceCtorEq,Nat.reduceBEq,i64,bV,iD,bD,h0,h1,h2,h3,h6,h37,h38,wCode,cVar,List.cons_append,List.nil_append,List.append_nil,insO,List.length_map]
   refine⟨fun e he=>by rw[List.mem_singleton.1 he]; rfl,⟨by omega,by omega⟩,?_⟩
   have hT:List.take i (J.map fun x=>[V.d (D.sc (Value.int IntKind.i64 x))])=J.map fun x=>[V.d (D.sc (Value.int IntKind.i64 x))]:=List.take_of_length_le (by rw[List.length_map]; omega)
   have hJ2:(⟨g + 1,true,1,(J.map fun x=>[V.d (D.sc (Value.int IntKind.i64 x))])++[[V.d (D.sc (Value.int IntKind.i64 D1.length))]]⟩:VL.Obj)=insO (g + 1) (repHP k.code (i + 1) C1.length):=by
    rw[hsp]; simp [insO,i64]
   rw[hT,hJ2]
   clear hT hJ2 hsp
   generalize hJ3:repHP k.code (i + 1) C1.length=J2 at *
   refine draw_c mix [6] [] (by rfl) ?_
   simp only[zX,Nat.reduceShiftRight,Nat.reduceMod,Nat.reduceLT,Nat.reduceMul,Nat.reduceSub,Int.reduceToNat,Int.reduceNeg,Int.reduceLT,Int.reduceLE,Int.reduceEq,Nat.reduceEqDiff,Nat.reduceAdd,Nat.reduceLeDiff,reduceIte,reduceCtorEq,Nat.reduceBEq,i64,bV,iD,bD,h0,h1,h2,h3,h6,h37,h38,wCode,cVar,List.cons_append,List.nil_append,List.append_nil,Re.cells_eq re,List.length_map,hkn,hkn2,Int.toNat_natCast,hkg]
   refine callD_of (call_w hw (by rfl) (by rfl) (tl:=[insO (g + 1) J2]) ⟨rfl,rfl⟩) ?_
   simp only[zX,Nat.reduceShiftRight,Nat.reduceMod,Nat.reduceLT,Nat.reduceMul,Nat.reduceSub,Int.reduceToNat,Int.reduceNeg,Int.reduceLT,Int.reduceLE,Int.reduceEq,Nat.reduceEqDiff,Nat.reduceAdd,Nat.reduceLeDiff,reduceIte,reduceCtorEq,Nat.reduceBEq,i64,bV,iD,bD,h0,h1,h2,h3,h6,h37,h38,wCode,cVar,List.cons_append,List.nil_append,List.append_nil]
   refine⟨m - (i + 1),_,_,by omega,Cln.refl,i + 1,g + 1,rfl,hlt,?_,?_,?_,?_,?_,?_,?_,by rw[hD3,hJ3]; rfl⟩ <;> (try simp only[zU,Nat.reduceBEq,Nat.reduceShiftRight,Nat.reduceMod,Nat.reduceEqDiff,reduceIte])
   ·rw[h0,Re.cells_eq re]; rfl
   ·exact h1
   ·exact h2
   ·exact h3
   ·exact h37
   ·rw[w64 _ (by omega)]; rfl
  ·have hie:i=m:=by omega
   subst hie
   have hH:=hHb i C1.length (Nat.le_refl _)
   have hJl:=repHP_len k.code i C1.length
   have hJb:∀x∈repHP k.code i C1.length,0≤x∧x < (C1++repH k.code i C1.length).length:=fun x hx=>by have:=repHP_in k.code i C1.length x hx; rw[List.length_append]; omega
   have hD1:(C1++repH k.code i C1.length).length + 10≤1000000000000:=by rw[List.length_append]; omega
   have hJ0:re.mx=-1→(repHP k.code i C1.length)[0 + 0]?=some (C1.length:Int):=fun h=>by
    rw[repM,if_pos h] at hM
    rw[← hM]; simp [repHP,repH]
   rw[show rSt (C1++repH k.code i C1.length) (repHP k.code i C1.length) g=wCode (C1++repH k.code i C1.length)++[insO g (repHP k.code i C1.length)] from rfl]
   have hTl:(repT re.mx C1.length).length≤1:=by unfold repT; split <;> simp
   have hTn:re.mx≠-1→repT re.mx C1.length=[]:=fun h=>if_neg h
   have hTp:re.mx=-1→repT re.mx C1.length=[(⟨3,C1.length,0,0,[]⟩:Ins)]:=fun h=>if_pos h
   have hi1:re.mx=-1→i=1:=fun h=>by rw[← hM,repM,if_pos h]
   generalize repT re.mx C1.length=T at *
   generalize C1++repH k.code i C1.length=D1 at *
   generalize repHP k.code i C1.length=J at *
   simp only[zX,Nat.reduceShiftRight,Nat.reduceMod,Nat.reduceLT,Nat.reduceMul,Nat.reduceSub,Int.reduceToNat,Int.reduceNeg,Int.reduceLT,Int.reduceLE,Int.reduceEq,Nat.reduceEqDiff,Nat.reduceAdd,Nat.reduceLeDiff,reduceIte,reduceCtorEq,Nat.reduceBEq,i64,bV,iD,bD,h0,h1,h2,h3,h6,h37,h38,Int.lt_irrefl,wCode,cVar,List.cons_append,List.nil_append,List.append_nil,Re.cells_eq re]
   refine condF_join (fun e s=>e 0=.d (.el re.cells)∧e 3=.rf 0 0 0 0∧e 6=.so 6 g 0 i∧s=rSt (D1++T) J g) ?_ ?_ ?_
   ·intro hm B Q hB
    have hi':=hi1 hm
    have hj:=hJ0 hm
    have hg0:(insO g J).g=g:=rfl
    rw[hTp hm] at hB
    simp only[zX,Nat.reduceShiftRight,Nat.reduceMod,Nat.reduceLT,Nat.reduceMul,Nat.reduceSub,Int.reduceToNat,Int.reduceNeg,Int.reduceLT,Int.reduceLE,Int.reduceEq,Nat.reduceEqDiff,Nat.reduceAdd,Nat.reduceLeDiff,reduceIte,reduceCtorEq,Nat.reduceBEq,i64,bV,iD,bD,h0,h1,h2,h3,h6,h37,h38]
    refine draw_c mix [5] [] (by rfl) ?_
    simp only[zX,Nat.reduceShiftRight,Nat.reduceMod,Nat.reduceLT,Nat.reduceMul,Nat.reduceSub,Int.reduceToNat,Int.reduceNeg,Int.reduceLT,Int.reduceLE,Int.reduceEq,Nat.reduceEqDiff,Nat.reduceAdd,Nat.reduceLeDiff,reduceIte,reduceCtorEq,Nat.reduceBEq,i64,bV,iD,bD,h0,h1,h2,h3,h6,h37,h38,wCode,cVar,List.cons_append,List.nil_append,List.append_nil,insO,hi',List.length_map,Option.map_some,hj,Int.reduceToNat]
    refine⟨by decide,?_⟩
    refine callD_of (call_put0 D1 (by omega) 3 C1.length 0 0 (tl:=[insO g J]) ⟨rfl,rfl⟩) ?_
    generalize D1++[(⟨3,C1.length,0,0,[]⟩:Ins)]=D2 at *
    simp only[zX,Nat.reduceShiftRight,Nat.reduceMod,Nat.reduceLT,Nat.reduceMul,Nat.reduceSub,Int.reduceToNat,Int.reduceNeg,Int.reduceLT,Int.reduceLE,Int.reduceEq,Nat.reduceEqDiff,Nat.reduceAdd,Nat.reduceLeDiff,reduceIte,reduceCtorEq,Nat.reduceBEq,i64,bV,iD,bD,h0,h1,h2,h3,h6,h37,h38,wCode,cVar,List.cons_append,List.nil_append,List.append_nil]
    refine hB _ _ ⟨?_,?_,?_,?_⟩ <;> (try simp only[zU,Nat.reduceBEq,Nat.reduceShiftRight,Nat.reduceMod,Nat.reduceEqDiff,reduceIte])
    all_goals (first | exact h3 | exact h6 | (rw[h0,Re.cells_eq re]; done) | rfl)
   ·intro hm B Q hB
    rw[hTn hm,List.append_nil] at hB
    simp only[zX,Nat.reduceShiftRight,Nat.reduceMod,Nat.reduceLT,Nat.reduceMul,Nat.reduceSub,Int.reduceToNat,Int.reduceNeg,Int.reduceLT,Int.reduceLE,Int.reduceEq,Nat.reduceEqDiff,Nat.reduceAdd,Nat.reduceLeDiff,reduceIte,reduceCtorEq,Nat.reduceBEq,i64,bV,iD,bD,h0,h1,h2,h3,h6,h37,h38]
    refine hB _ _ ⟨?_,?_,?_,?_⟩ <;> (try simp only[zU,Nat.reduceBEq,Nat.reduceShiftRight,Nat.reduceMod,Nat.reduceEqDiff,reduceIte])
    all_goals (first | exact h3 | exact h6 | (rw[h0,Re.cells_eq re]; done) | rfl)
   clear h0 h1 h2 h3 h6 h37 h38
   rintro e s ⟨h0,h3,h6,rfl⟩
   have hg0:(insO g J).g=g:=rfl
   have hD2:(D1++T).length≤1000000000000:=by rw[List.length_append]; omega
   have hJC:∀x∈J,0≤x∧x < (D1++T).length:=fun x hx=>by have:=hJb x hx; rw[List.length_append]; omega
   clear hJ0 hTl hTn hTp hi1 hJb hD1
   generalize D1++T=D2 at *
   rw[show rSt D2 J g=wCode D2++[insO g J] from rfl]
   simp only[zX,Nat.reduceShiftRight,Nat.reduceMod,Nat.reduceLT,Nat.reduceMul,Nat.reduceSub,Int.reduceToNat,Int.reduceNeg,Int.reduceLT,Int.reduceLE,Int.reduceEq,Nat.reduceEqDiff,Nat.reduceAdd,Nat.reduceLeDiff,reduceIte,reduceCtorEq,Nat.reduceBEq,i64,bV,iD,bD,h0,h3,h6,wCode,cVar,List.cons_append,List.nil_append,List.append_nil,hg0]
   refine loop_rule (fun n e s=>∃(j:Nat),n=J.length - j∧j≤J.length∧e 0=.d (.el re.cells)∧e 3=.rf 0 0 0 0∧e 65=.so 6 g 0 J.length∧e 66=i64 J.length∧e 67=i64 j∧s=bSt ((J.take j).foldl (setS re.mode D2.length) D2) g J)
    ⟨_,_,_,Cln.refl,0,by rfl,by omega,by exact h0,by exact h3,by rw[hJl]; rfl,by rw[hJl]; rfl,rfl,rfl⟩ ?_
   clear h0 h3 h6
   rintro n e s ⟨j,rfl,hj,h0,h3,h65,h66,h67,rfl⟩
   rcases Nat.lt_or_ge j J.length with hlt | hge
   ·obtain⟨x,hx⟩:∃x,J[j]?=some x:=⟨_,List.getElem?_eq_getElem hlt⟩
    have hxb:=hJC x (List.mem_of_getElem? hx)
    have hx':J[0 + j]?=some x:=by rw[Nat.zero_add]; exact hx
    have hlt':(j:Int) < (J.length:Int):=by omega
    have hj0:(0:Int)≤(j:Int):=by omega
    have hsn:(J.take (j + 1)).foldl (setS re.mode D2.length) D2=setS re.mode D2.length ((J.take j).foldl (setS re.mode D2.length) D2) x:=by
     rw[take_get hx,List.foldl_append]; rfl
    have hDl:((J.take j).foldl (setS re.mode D2.length) D2).length=D2.length:=setSs_len _ _ _ _
    rw[show bSt ((J.take j).foldl (setS re.mode D2.length) D2) g J=wCode ((J.take j).foldl (setS re.mode D2.length) D2)++[insO g J] from rfl]
    generalize (J.take j).foldl (setS re.mode D2.length) D2=Dc at *
    have hg:(cArr Dc).g=Dc.length:=rfl
    have hsz:(cArr Dc).sz=5:=rfl
    have he:(cArr Dc).els=(Dc.map Ins.cells).map fun c=>c.map V.d:=rfl
    have hlv:(cArr Dc).live=true:=rfl
    obtain⟨y,hy⟩:∃y,Dc[0 + x.toNat]?=some y:=⟨_,List.getElem?_eq_getElem (by omega)⟩
    have hx0:x.toNat < Dc.length:=by omega
    have hx1:x < (Dc.length:Int):=by omega
    have w1:IntKind.i64.wrap (x + 1)=x + 1:=w64 _ (by omega)
    have hsp:=splitP_ok (x + 1) Dc.length re.mode
    unfold putV at hsp
    simp only[i64] at hsp
    simp only[zX,Nat.reduceShiftRight,Nat.reduceMod,Nat.reduceLT,Nat.reduceMul,Nat.reduceSub,Int.reduceToNat,Int.reduceNeg,Int.reduceLT,Int.reduceLE,Int.reduceEq,Nat.reduceEqDiff,Nat.reduceAdd,Nat.reduceLeDiff,reduceIte,reduceCtorEq,Nat.reduceBEq,i64,bV,iD,bD,h0,h3,h65,h66,h67,wCode,cVar,List.cons_append,List.nil_append,List.append_nil,insO,hlt',hj0,hlt,Int.toNat_natCast,hx',Option.map_some,hg,hsz,he,hlv,List.length_map,hxb.1,hx0,hx1,hy,Ins.cells]
    refine draw_c mix [] [(5,[5],[]),(11,[5],[]),(12,[5],[5])] (by rfl) ?_
    simp only[zX,Nat.reduceShiftRight,Nat.reduceMod,Nat.reduceLT,Nat.reduceMul,Nat.reduceSub,Int.reduceToNat,Int.reduceNeg,Int.reduceLT,Int.reduceLE,Int.reduceEq,Nat.reduceEqDiff,Nat.reduceAdd,Nat.reduceLeDiff,reduceIte,reduceCtorEq,Nat.reduceBEq,i64,bV,iD,bD,h0,h3,h65,h66,h67,wCode,cVar,List.cons_append,List.nil_append,List.append_nil,insO,hlt',hj0,hlt,Int.toNat_natCast,hx',Option.map_some,hg,hsz,he,hlv,List.length_map,hxb.1,hx0,hx1,hy,Ins.cells,Re.cells_eq re,w1]
    refine callC_pure hsp rfl rfl ?_
    simp only[zX,Nat.reduceShiftRight,Nat.reduceMod,Nat.reduceLT,Nat.reduceMul,Nat.reduceSub,Int.reduceToNat,Int.reduceNeg,Int.reduceLT,Int.reduceLE,Int.reduceEq,Nat.reduceEqDiff,Nat.reduceAdd,Nat.reduceLeDiff,reduceIte,reduceCtorEq,Nat.reduceBEq,i64,bV,iD,bD,h0,h3,h65,h66,h67,wCode,cVar,List.cons_append,List.nil_append,List.append_nil,insO,hlt',hj0,hlt,Int.toNat_natCast,hx',Option.map_some,hg,hsz,he,hlv,List.length_map,hxb.1,hx0,hx1,hy,Ins.cells,Re.cells_eq re,w1]
    refine⟨J.length - (j + 1),_,_,by omega,Cln.refl,j + 1,rfl,hlt,?_,?_,?_,?_,?_,?_⟩ <;> (try simp only[zU,Nat.reduceBEq,Nat.reduceShiftRight,Nat.reduceMod,Nat.reduceEqDiff,reduceIte])
    ·rw[h0,Re.cells_eq re]; rfl
    ·exact h3
    ·exact h65
    ·exact h66
    ·rw[w64 _ (by omega)]; rfl
    ·rw[hsn,setS,hDl]
     simp only[bSt,wCode,cVar,cArr,insO,i64,List.length_set,List.map_set,hDl,List.cons_append,List.nil_append,Ins.cells,iD,List.map_cons,List.map_nil,Nat.zero_add]
   ·have hje:j=J.length:=by omega
    subst hje
    rw[List.take_length]
    simp only[zX,Nat.reduceShiftRight,Nat.reduceMod,Nat.reduceLT,Nat.reduceMul,Nat.reduceSub,Int.reduceToNat,Int.reduceNeg,Int.reduceLT,Int.reduceLE,Int.reduceEq,Nat.reduceEqDiff,Nat.reduceAdd,Nat.reduceLeDiff,reduceIte,reduceCtorEq,Nat.reduceBEq,i64,bV,iD,bD,h0,h3,h65,h66,h67,Int.lt_irrefl]
    exact⟨wCode_ok _,rfl⟩
end Go.Proofs.Ytdofoappodmcoaa
