/- A part of the proof (F34 F35 F36). -/
import Derived.Test.YtllagoeijcjpiaaSL2
import Derived.Test.YtllagoeijcjpiaaSL3
import Derived.Test.YtllagoeijcjpiaaSL14
import Derived.Test.YtllagoeijcjpiaaSL5
set_option linter.unusedSimpArgs false
set_option linter.unusedVariables false
set_option maxRecDepth 100000
set_option maxHeartbeats 80000000
set_option linter.unusedSimpArgs false
set_option linter.unusedVariables false
namespace Go.Proofs.Ytllagoeijcjpiaa
open Go.VL Go.Proofs.Try
def kidsR (op:Int):Int × Int :=
 if op=2∨op=3 then (2,-1) else if op=4∨op=5∨op=7∨op=8∨op=9 then (1,1) else if op=10 then (2,2) else (0,0)
theorem refKids_ok (op:Int):PureOK prog 157 [i64 op] (.tu [i64 (kidsR op).1,i64 (kidsR op).2]):=by
 have hcase:op=2∨op=3∨op=4∨op=5∨op=7∨op=8∨op=9∨op=10∨(¬op=2∧¬op=3∧¬op=4∧¬op=5∧¬op=7∧¬op=8∧¬op=9∧¬op=10):=by omega
 rcases hcase with p | p | p | p | p | p | p | p | ⟨p1,p2,p3,p4,p5,p6,p7,p8⟩
 all_goals
  first
   |(rw[p]
     refine fn_ok func157 rfl ntmps157 results157 rfl 0 317 (by simp) (by simp) ?_
     simp only[zW,simprocAttr,i64]
     all_goals first | exact⟨rfl,rfl⟩ | exact⟨rfl,trivial⟩ | rfl | trivial | (rw[reV_eq]; rfl))
   |(rw[show kidsR op=(0,0) by simp [kidsR,p1,p2,p3,p4,p5,p6,p7,p8]]
     refine fn_ok func157 rfl ntmps157 results157 rfl 0 317 (by simp) (by simp) ?_
     simp only[zW,simprocAttr,i64,p1,p2,p3,p4,p5,p6,p7,p8]
     all_goals first | exact⟨rfl,rfl⟩ | exact⟨rfl,trivial⟩ | rfl | trivial | (rw[reV_eq]; rfl))
def spOk (top:Int):Int→List (Int × Int)→Bool
 | _,[]=>true
 | p,s::l=>decide (0≤s.1∧s.1≤s.2∧s.2≤top∧p + 1 < s.1)&&spOk top s.2 l
def spansR (l:List (Int × Int)) (top:Int):Bool:=decide (l.length≤64)&&spOk top (-2) l
def prevHi (l:List (Int × Int)):Nat→Int
 | 0=>-2
 | i + 1=>(l[i]?.map (·.2)).getD 0
theorem refSpans_ok (l:List (Int × Int)) (hl:l.length≤1000000000) (top:Int) (ht:top≤1114111):PureOK prog 158 [.d (.sl (l.map spanC)),i64 top] (bV (spansR l top)):=by
 refine fn_ok func158 rfl ntmps158 results158 rfl 0 51 (by simp) (by simp) ?_
 by_cases h64:(64:Int) < l.length
 ·simp only[zX,simprocAttr,i64,h64]
  have:¬l.length≤64:=by omega
  simp [spansR,bV,this]
 have h64':l.length≤64:=by omega
 have hR:spansR l top=spOk top (-2) l:=by simp [spansR,h64']
 rw[hR]
 simp only[zX,simprocAttr,i64,h64]
 refine loop_rule (fun n e s=>∃i:Nat,n=l.length - i∧i≤l.length∧e 0=.d (.sl (l.map spanC))∧e 1=i64 top∧e 5=i64 i∧s=[]∧spOk top (-2) l=spOk top (prevHi l i) (l.drop i)∧(0 < i→0≤prevHi l i∧prevHi l i≤top))
  ⟨_,_,_,Cln.refl,0,rfl,by omega,rfl,rfl,rfl,rfl,rfl,fun h=>absurd h (by omega)⟩ ?_
 rintro n e s ⟨i,rfl,hi,h0,h1,h5,rfl,hsp,hpv⟩
 rcases Nat.lt_or_ge i l.length with hlt | hge
 ·obtain⟨k,hk⟩:∃k,l[i]?=some k:=⟨_,List.getElem?_eq_getElem hlt⟩
  have hd:l.drop i=k::l.drop (i + 1):=by
   rw[List.drop_eq_getElem_cons hlt]
   rw[List.getElem?_eq_getElem hlt] at hk
   simp only[Option.some.injEq] at hk
   rw[hk]
  rw[hd] at hsp
  simp only[spOk] at hsp
  have hp1:prevHi l (i + 1)=k.2:=by simp [prevHi,hk]
  simp only[zX,simprocAttr,i64,h0,h1,h5,hlt]
  refine draw_c mix [] [] (by rfl) ?_
  cases i with
  | zero =>
   have hsp:spOk top (-2) l=(decide (0≤k.1∧k.1≤k.2∧k.2≤top∧-2 + 1 < k.1)&&spOk top k.2 (l.drop (0 + 1))):=hsp
   simp only[zX,simprocAttr,i64,h0,h1,h5,hk,spanC,iD,Int.natCast_zero]
   repeat' (first
 |(with_reducible refine And.intro (by first | omega | exact⟨by omega,by omega⟩ | (simp; done)) ?_)
 |(with_reducible refine condS (fun hc=>?_) (fun hc=>?_) <;> simp only[zX,simprocAttr,i64,h0,h1,h5,hk,spanC,iD,Int.natCast_zero,hc])
 |(with_reducible refine guardS_t (fun hc=>?_) (fun hc=>?_) <;> simp only[zX,simprocAttr,i64,h0,h1,h5,hk,spanC,iD,Int.natCast_zero,hc])
 |(with_reducible refine guardS_f (fun hc=>?_) (fun hc=>?_) <;> simp only[zX,simprocAttr,i64,h0,h1,h5,hk,spanC,iD,Int.natCast_zero,hc])
 |(with_reducible refine guardS_nt (fun hc=>?_) (fun hc=>?_) <;> simp only[zX,simprocAttr,i64,h0,h1,h5,hk,spanC,iD,Int.natCast_zero,hc])
 |(with_reducible refine guardS_nf (fun hc=>?_) (fun hc=>?_) <;> simp only[zX,simprocAttr,i64,h0,h1,h5,hk,spanC,iD,Int.natCast_zero,hc])
 |(with_reducible refine condSb (fun hc=>?_) (fun hc=>?_) <;> simp only[zX,simprocAttr,i64,h0,h1,h5,hk,spanC,iD,Int.natCast_zero,hc])
 |(with_reducible refine guardS_b (fun hc=>?_) (fun hc=>?_) <;> simp only[zX,simprocAttr,i64,h0,h1,h5,hk,spanC,iD,Int.natCast_zero,hc]))
   any_goals (refine congrArg bV (Eq.symm ?_); rw[hsp,show decide (0≤k.1∧k.1≤k.2∧k.2≤top∧-2 + 1 < k.1)=false from decide_eq_false (by omega)]; rfl)
   refine⟨l.length - 1,_,_,by omega,Cln.refl,1,rfl,hlt,?_,?_,?_,rfl,?_,?_⟩ <;> (try simp only[zU,Nat.reduceBEq,Nat.reduceShiftRight,Nat.reduceMod,Nat.reduceEqDiff,reduceIte])
   ·exact h0
   ·exact h1
   ·rw[w64 _ (by omega)]; rfl
   ·rw[hsp,hp1,show decide (0≤k.1∧k.1≤k.2∧k.2≤top∧-2 + 1 < k.1)=true from decide_eq_true (by omega)]; rfl
   ·intro _; rw[hp1]; omega
  | succ j =>
   obtain⟨kp,hkp⟩:∃k,l[j]?=some k:=⟨_,List.getElem?_eq_getElem (by omega:j < l.length)⟩
   have hpe:prevHi l (j + 1)=kp.2:=by simp [prevHi,hkp]
   have hpv:=hpv (by omega)
   rw[hpe] at hpv hsp
   have w1:IntKind.i64.wrap (((j + 1:Nat):Int) - 1)=(j:Int):=by rw[w64 _ (by omega)]; omega
   have w2:IntKind.i64.wrap (kp.2 + 1)=kp.2 + 1:=w64 _ (by omega)
   have p0:(0:Int) < ((j + 1:Nat):Int):=by omega
   have q0:(0:Int)≤((j + 1:Nat):Int):=by omega
   have q1:((j + 1:Nat):Int) < l.length:=by omega
   have q2:(j:Int) < l.length:=by omega
   simp only[zX,simprocAttr,i64,h0,h1,h5,hk,spanC,iD,hkp,w1,w2,p0,q0,q1,q2]
   repeat' (first
 |(with_reducible refine And.intro (by first | omega | exact⟨by omega,by omega⟩ | (simp; done)) ?_)
 |(with_reducible refine condS (fun hc=>?_) (fun hc=>?_) <;> simp only[zX,simprocAttr,i64,h0,h1,h5,hk,spanC,iD,hkp,w1,w2,p0,q0,q1,q2,hc])
 |(with_reducible refine guardS_t (fun hc=>?_) (fun hc=>?_) <;> simp only[zX,simprocAttr,i64,h0,h1,h5,hk,spanC,iD,hkp,w1,w2,p0,q0,q1,q2,hc])
 |(with_reducible refine guardS_f (fun hc=>?_) (fun hc=>?_) <;> simp only[zX,simprocAttr,i64,h0,h1,h5,hk,spanC,iD,hkp,w1,w2,p0,q0,q1,q2,hc])
 |(with_reducible refine guardS_nt (fun hc=>?_) (fun hc=>?_) <;> simp only[zX,simprocAttr,i64,h0,h1,h5,hk,spanC,iD,hkp,w1,w2,p0,q0,q1,q2,hc])
 |(with_reducible refine guardS_nf (fun hc=>?_) (fun hc=>?_) <;> simp only[zX,simprocAttr,i64,h0,h1,h5,hk,spanC,iD,hkp,w1,w2,p0,q0,q1,q2,hc])
 |(with_reducible refine condSb (fun hc=>?_) (fun hc=>?_) <;> simp only[zX,simprocAttr,i64,h0,h1,h5,hk,spanC,iD,hkp,w1,w2,p0,q0,q1,q2,hc])
 |(with_reducible refine guardS_b (fun hc=>?_) (fun hc=>?_) <;> simp only[zX,simprocAttr,i64,h0,h1,h5,hk,spanC,iD,hkp,w1,w2,p0,q0,q1,q2,hc]))
   any_goals (refine congrArg bV (Eq.symm ?_); rw[hsp,show decide (0≤k.1∧k.1≤k.2∧k.2≤top∧kp.2 + 1 < k.1)=false from decide_eq_false (by omega)]; rfl)
   refine⟨l.length - (j + 1 + 1),_,_,by omega,Cln.refl,j + 1 + 1,rfl,hlt,?_,?_,?_,rfl,?_,?_⟩ <;> (try simp only[zU,Nat.reduceBEq,Nat.reduceShiftRight,Nat.reduceMod,Nat.reduceEqDiff,reduceIte])
   ·exact h0
   ·exact h1
   ·rw[w64 _ (by omega)]; rfl
   ·rw[hsp,hp1,show decide (0≤k.1∧k.1≤k.2∧k.2≤top∧kp.2 + 1 < k.1)=true from decide_eq_true (by omega)]; rfl
   ·intro _; rw[hp1]; omega
 ·have hie:i=l.length:=by omega
  subst hie
  simp only[zX,simprocAttr,i64,h0,h1,h5,Nat.lt_irrefl]
  rw[hsp]
  simp [spOk,bV]
def nodeOk (re:Re) (caps top:Int):Bool :=
 decide (0≤re.op∧re.op≤11∧(kidsR re.op).1≤re.kids.length∧((kidsR re.op).2 < 0∨(re.kids.length:Int)≤(kidsR re.op).2)) &&
 ((if re.op=1 then spansR re.set top else decide (re.set.length=0)) &&
 ((if re.op=4 then decide (0≤re.mn∧re.mn≤32∧-1≤re.mx∧re.mx≠0∧re.mx≤32∧(0 < re.mx→re.mn≤re.mx)∧0≤re.mode∧re.mode≤2) else decide (re.mn=0∧re.mx=0∧re.mode=0)) &&
 ((if re.op=5∨re.op=6∨re.op=10 then decide (1≤re.n∧re.n≤caps) else if re.op=11 then decide (0≤re.n∧re.n≤5) else decide (re.n=0)) &&
 (!re.neg||decide (re.op=7∨re.op=8)))))
theorem refFormed_ok (re:Re) (hf:re.fine=true) (caps top:Int) (ht:top≤1114111):PureOK prog 121 [reV re,i64 caps,i64 top] (bV (nodeOk re caps top)):=by
 obtain⟨hset1,hlen,hfk⟩:=Re.fine_spec hf
 have hsp:=refSpans_ok re.set hset1 top ht
 have hkd:=refKids_ok re.op
 by_cases ho:re.op < 0∨11 < re.op
 ·rw[show nodeOk re caps top=false by simp only[nodeOk]; rw[decide_eq_false (by omega)]; rfl]
  have ho2:re.op < 0∨(¬re.op < 0∧11 < re.op):=by omega
  refine fn_ok func121 rfl ntmps121 results121 rfl 0 361550014853497117429835520396253725135 (by simp) (by simp) ?_
  simp only[zX,simprocAttr,i64,reV_eq re,iD,bD]
  refine call_pure hkd (by simp [refsV,refsV.go,reV_eq,i64,bV,reEl]) (by simp [refsV,refsV.go,reV_eq,i64,bV,reEl]) ?_
  rcases ho2 with h1 | ⟨h1,h2⟩
  ·simp only[zX,simprocAttr,i64,reV_eq re,iD,bD,h1]
   rfl
  ·simp only[zX,simprocAttr,i64,reV_eq re,iD,bD,h1,h2]
   rfl
 ·have hc:re.op=0∨re.op=1∨re.op=2∨re.op=3∨re.op=4∨re.op=5∨re.op=6∨re.op=7∨re.op=8∨re.op=9∨re.op=10∨re.op=11:=by omega
  clear ho
  rcases hc with p | p | p | p | p | p | p | p | p | p | p | p
  case inr.inl =>
   rw[p] at hkd
   simp only[kidsR,Int.reduceEq,or_self,if_false,or_true,true_or,or_false,false_or,if_true,reduceIte] at hkd
   generalize hv:spansR re.set top=sv at hsp
   cases sv
   all_goals
    refine fn_ok func121 rfl ntmps121 results121 rfl 0 361550014853497117429835520396253725135 (by simp) (by simp) ?_
    simp only[zX,simprocAttr,i64,reV_eq re,iD,bD,p]
    refine call_pure hkd (by simp [refsV,refsV.go,reV_eq,i64,bV,reEl]) (by simp [refsV,refsV.go,reV_eq,i64,bV,reEl]) ?_
    simp only[zX,simprocAttr,i64,reV_eq re,iD,bD,p]
    repeat' (first
 |(with_reducible refine And.intro (by first | omega | exact⟨by omega,by omega⟩ | (simp; done)) ?_)
 |(with_reducible refine condS (fun hc=>?_) (fun hc=>?_) <;> simp only[zX,simprocAttr,i64,reV_eq re,iD,bD,p,hc])
 |(with_reducible refine guardS_t (fun hc=>?_) (fun hc=>?_) <;> simp only[zX,simprocAttr,i64,reV_eq re,iD,bD,p,hc])
 |(with_reducible refine guardS_f (fun hc=>?_) (fun hc=>?_) <;> simp only[zX,simprocAttr,i64,reV_eq re,iD,bD,p,hc])
 |(with_reducible refine guardS_nt (fun hc=>?_) (fun hc=>?_) <;> simp only[zX,simprocAttr,i64,reV_eq re,iD,bD,p,hc])
 |(with_reducible refine guardS_nf (fun hc=>?_) (fun hc=>?_) <;> simp only[zX,simprocAttr,i64,reV_eq re,iD,bD,p,hc])
 |(with_reducible refine condSb (fun hc=>?_) (fun hc=>?_) <;> simp only[zX,simprocAttr,i64,reV_eq re,iD,bD,p,hc])
 |(with_reducible refine guardS_b (fun hc=>?_) (fun hc=>?_) <;> simp only[zX,simprocAttr,i64,reV_eq re,iD,bD,p,hc]))
   any_goals
    refine call_pure hsp (by simp [refsV,refsV.go,reV_eq,i64,bV,reEl]) (by simp [refsV,refsV.go,reV_eq,i64,bV,reEl]) ?_
    simp only[zX,simprocAttr,i64,reV_eq re,iD,bD,p,bV]
   any_goals
    repeat' (first
 |(with_reducible refine And.intro (by first | omega | exact⟨by omega,by omega⟩ | (simp; done)) ?_)
 |(with_reducible refine condS (fun hc=>?_) (fun hc=>?_) <;> simp only[zX,simprocAttr,i64,reV_eq re,iD,bD,p,bV,hc])
 |(with_reducible refine guardS_t (fun hc=>?_) (fun hc=>?_) <;> simp only[zX,simprocAttr,i64,reV_eq re,iD,bD,p,bV,hc])
 |(with_reducible refine guardS_f (fun hc=>?_) (fun hc=>?_) <;> simp only[zX,simprocAttr,i64,reV_eq re,iD,bD,p,bV,hc])
 |(with_reducible refine guardS_nt (fun hc=>?_) (fun hc=>?_) <;> simp only[zX,simprocAttr,i64,reV_eq re,iD,bD,p,bV,hc])
 |(with_reducible refine guardS_nf (fun hc=>?_) (fun hc=>?_) <;> simp only[zX,simprocAttr,i64,reV_eq re,iD,bD,p,bV,hc])
 |(with_reducible refine condSb (fun hc=>?_) (fun hc=>?_) <;> simp only[zX,simprocAttr,i64,reV_eq re,iD,bD,p,bV,hc])
 |(with_reducible refine guardS_b (fun hc=>?_) (fun hc=>?_) <;> simp only[zX,simprocAttr,i64,reV_eq re,iD,bD,p,bV,hc]))
   all_goals
    rcases Bool.eq_false_or_eq_true re.neg with hneg | hneg
    all_goals
     try (exfalso; rw[hneg] at hc; exact absurd hc (by decide); done)
     try first
      |(first | refine congrArg bV (Eq.symm (Bool.eq_false_iff.2 fun h=>?_)) | refine Eq.symm (Bool.eq_false_iff.2 fun h=>?_)
        simp only[nodeOk,kidsR,p,hneg,hv,Int.reduceEq,or_self,if_false,or_true,true_or,or_false,false_or,if_true,reduceIte,Bool.and_eq_true,decide_eq_true_eq,Bool.not_true,Bool.not_false,Bool.true_or,Bool.false_or,reduceCtorEq,Bool.false_eq_true,false_and,and_false,true_and,and_true] at h
        try omega
        done)
      |(first | refine congrArg bV (Eq.symm ?_) | refine Eq.symm ?_
        simp only[nodeOk,kidsR,p,hneg,hv,Int.reduceEq,or_self,if_false,or_true,true_or,or_false,false_or,if_true,reduceIte,Bool.and_eq_true,decide_eq_true_eq,Bool.not_true,Bool.not_false,Bool.true_or,Bool.false_or,reduceCtorEq,Bool.false_eq_true,false_and,and_false,true_and,and_true]
        try omega
        done)
  all_goals
   rw[p] at hkd
   simp only[kidsR,Int.reduceEq,or_self,if_false,or_true,true_or,or_false,false_or,if_true,reduceIte] at hkd
   refine fn_ok func121 rfl ntmps121 results121 rfl 0 361550014853497117429835520396253725135 (by simp) (by simp) ?_
   simp only[zX,simprocAttr,i64,reV_eq re,iD,bD,p]
   refine call_pure hkd (by simp [refsV,refsV.go,reV_eq,i64,bV,reEl]) (by simp [refsV,refsV.go,reV_eq,i64,bV,reEl]) ?_
   simp only[zX,simprocAttr,i64,reV_eq re,iD,bD,p]
   repeat' (first
 |(with_reducible refine And.intro (by first | omega | exact⟨by omega,by omega⟩ | (simp; done)) ?_)
 |(with_reducible refine condS (fun hc=>?_) (fun hc=>?_) <;> simp only[zX,simprocAttr,i64,reV_eq re,iD,bD,p,hc])
 |(with_reducible refine guardS_t (fun hc=>?_) (fun hc=>?_) <;> simp only[zX,simprocAttr,i64,reV_eq re,iD,bD,p,hc])
 |(with_reducible refine guardS_f (fun hc=>?_) (fun hc=>?_) <;> simp only[zX,simprocAttr,i64,reV_eq re,iD,bD,p,hc])
 |(with_reducible refine guardS_nt (fun hc=>?_) (fun hc=>?_) <;> simp only[zX,simprocAttr,i64,reV_eq re,iD,bD,p,hc])
 |(with_reducible refine guardS_nf (fun hc=>?_) (fun hc=>?_) <;> simp only[zX,simprocAttr,i64,reV_eq re,iD,bD,p,hc])
 |(with_reducible refine condSb (fun hc=>?_) (fun hc=>?_) <;> simp only[zX,simprocAttr,i64,reV_eq re,iD,bD,p,hc])
 |(with_reducible refine guardS_b (fun hc=>?_) (fun hc=>?_) <;> simp only[zX,simprocAttr,i64,reV_eq re,iD,bD,p,hc]))
  all_goals
   rcases Bool.eq_false_or_eq_true re.neg with hneg | hneg
   all_goals
    try (exfalso; rw[hneg] at hc; exact absurd hc (by decide); done)
    try first
     |(refine congrArg bV (Eq.symm (Bool.eq_false_iff.2 fun h=>?_))
       simp only[nodeOk,kidsR,p,hneg,Int.reduceEq,or_self,if_false,or_true,true_or,or_false,false_or,if_true,reduceIte,Bool.and_eq_true,decide_eq_true_eq,Bool.not_true,Bool.not_false,Bool.true_or,Bool.false_or,reduceCtorEq,Bool.false_eq_true,false_and,and_false,true_and,and_true] at h
       try omega
       done)
     |(refine congrArg bV (Eq.symm ?_)
       simp only[nodeOk,kidsR,p,hneg,Int.reduceEq,or_self,if_false,or_true,true_or,or_false,false_or,if_true,reduceIte,Bool.and_eq_true,decide_eq_true_eq,Bool.not_true,Bool.not_false,Bool.true_or,Bool.false_or,reduceCtorEq,Bool.false_eq_true,false_and,and_false,true_and,and_true]
       try omega
       done)
def Re.whole (re:Re) (caps top:Int):Bool:=re.every fun r=>nodeOk r caps top
theorem refWhole_ok (caps top:Int) (ht:top≤1114111) (re:Re) (hf:re.fine=true):PureOK prog 97 [reV re,i64 caps,i64 top] (bV (re.whole caps top)):=by
 revert hf
 refine Re.ind (Q:=fun re=>re.fine=true→PureOK prog 97 [reV re,i64 caps,i64 top] (bV (re.whole caps top))) (fun re ih hf=>?_) re
 obtain⟨hset1,hlen,hfk⟩:=Re.fine_spec hf
 have hfo:=refFormed_ok re hf caps top ht
 rw[reV_eq] at hfo
 simp only[i64,iD,bD] at hfo
 refine fn_ok func97 rfl ntmps97 results97 rfl 0 207 (by simp) (by simp) ?_
 simp only[zX,simprocAttr,i64,reV_eq re,iD,bD]
 refine call_pure hfo (by simp [refsV,refsV.go,reV_eq,i64,bV,reEl]) (by simp [refsV,refsV.go,reV_eq,i64,bV,reEl]) ?_
 cases hno:nodeOk re caps top with
 | false =>
  simp only[zX,simprocAttr,i64,bV]
  rw[show re.whole caps top=false by
   rw[Bool.eq_false_iff]; intro h; unfold Re.whole at h; rw[Re.every_iff,hno] at h; exact absurd h.1 (by decide)]
 | true =>
  simp only[zX,simprocAttr,i64,bV]
  refine loop_rule (fun n e s=>∃i:Nat,n=re.kids.length - i∧i≤re.kids.length∧e 1=i64 caps∧e 2=i64 top∧e 3=.rf 0 0 0 0∧e 7=i64 i∧(∀x∈re.kids.take i,x.whole caps top=true)∧s=[⟨0,true,8,[re.cells.map .d]⟩])
   ⟨_,_,_,Cln.refl,0,rfl,by omega,rfl,rfl,rfl,rfl,by simp,by simp [Re.cells_eq re,iD,bD]⟩ ?_
  rintro n e s ⟨i,rfl,hi,h1,h2,h3,h7,hn,rfl⟩
  rcases Nat.lt_or_ge i re.kids.length with hlt | hge
  ·obtain⟨k,hk⟩:∃k,re.kids[i]?=some k:=⟨_,List.getElem?_eq_getElem hlt⟩
   have hm:=List.mem_of_getElem? hk
   simp only[zX,simprocAttr,i64,Re.cells_eq re,iD,bD,h1,h2,h3,h7,hlt,hk]
   refine call_pure (ih k hm (hfk k hm)) (by simp [refsV,refsV.go,reV_eq,i64,bV,reEl]) (by simp [refsV,refsV.go,reV_eq,i64,bV,reEl]) ?_
   cases hkn:k.whole caps top with
   | false =>
    simp only[zX,simprocAttr,i64,bV]
    rw[show re.whole caps top=false by
     rw[Bool.eq_false_iff]; intro h; unfold Re.whole at h; rw[Re.every_iff] at h; have:=h.2 k hm; unfold Re.whole at hkn; rw[hkn] at this; cases this]
   | true =>
    simp only[zX,simprocAttr,i64,bV,Re.cells_eq re,iD,bD,h1,h2,h3,h7]
    refine⟨re.kids.length - (i + 1),_,_,by omega,Cln.refl,i + 1,rfl,hlt,?_,?_,?_,?_,?_,rfl⟩ <;> (try simp only[zU,Nat.reduceBEq,Nat.reduceShiftRight,Nat.reduceMod,Nat.reduceEqDiff,reduceIte])
    ·exact h1
    ·exact h2
    ·exact h3
    ·rw[w64 _ (by omega)]; rfl
    ·intro x hx
     rcases mem_take_succ hk hx with h | rfl
     ·exact hn x h
     ·exact hkn
  ·have hie:i=re.kids.length:=by omega
   subst hie
   simp only[zX,simprocAttr,i64,Re.cells_eq re,iD,bD,h1,h2,h3,h7,Nat.lt_irrefl]
   rw[show re.whole caps top=true from (Re.every_iff re).2 ⟨hno,fun k hk=>hn k (by rw[List.take_length]; exact hk)⟩]
def topR (runes:Bool):Int:=if runes=true then 1114111 else 255
def validR (p:Pat):Int :=
 if 256 < p.re.size∨24 < p.re.depth then 4 else if p.caps < 0∨9 < p.caps∨p.re.whole p.caps (topR p.runes)=false then 1 else 0
theorem refValid_ok (p:Pat) (hf:p.re.fine=true) (hs:p.re.size≤1000000000):PureOK prog 55 [patV p] (i64 (validR p)):=by
 have h1:=refSize_ok p.re hs
 have h2:=refDepth_ok p.re hs
 have h3:=refWhole_ok p.caps (topR p.runes) (by unfold topR; split <;> omega) p.re hf
 unfold validR
 rw[reV_eq] at h1 h2 h3
 cases p with
 | mk re caps runes =>
 simp only[i64,iD,bD] at h1 h2 h3
 simp only at *
 refine fn_ok func55 rfl ntmps55 results55 rfl 0 15 (by simp) (by simp) ?_
 simp only[zX,simprocAttr,i64,patV,Re.cells_eq re,bV,iD,bD]
 refine call_pure h1 (by simp [refsV,refsV.go,reV_eq,i64,bV,reEl]) (by simp [refsV,refsV.go,reV_eq,i64,bV,reEl]) ?_
 simp only[zX,simprocAttr,i64,patV,bV,iD,bD]
 by_cases c1:(256:Int) < re.size
 ·simp only[zX,simprocAttr,c1]
  rw[if_pos (by omega)]
 simp only[zX,simprocAttr,i64,patV,bV,iD,bD,c1]
 refine call_pure h2 (by simp [refsV,refsV.go,reV_eq,i64,bV,reEl]) (by simp [refsV,refsV.go,reV_eq,i64,bV,reEl]) ?_
 simp only[zX,simprocAttr,i64,patV,bV,iD,bD]
 by_cases c2:(24:Int) < re.depth
 ·simp only[zX,simprocAttr,c2]
 rw[if_neg (by omega)]
 simp only[zX,simprocAttr,i64,patV,bV,iD,bD,c2]
 cases runes
 all_goals
  simp only[topR,if_true,if_false,reduceIte,reduceCtorEq,Bool.false_eq_true] at h3 ⊢
  simp only[zX,simprocAttr,i64,patV,bV,iD,bD]
  by_cases c3:caps < 0
  ·simp only[zX,simprocAttr,i64,patV,bV,iD,bD,c3]
  by_cases c4:9 < caps
  ·simp only[zX,simprocAttr,i64,patV,bV,iD,bD,c3,c4,if_true,or_true,true_or]
  simp only[zX,simprocAttr,i64,patV,bV,iD,bD,c3,c4]
  refine call_pure h3 (by simp [refsV,refsV.go,reV_eq,i64,bV,reEl]) (by simp [refsV,refsV.go,reV_eq,i64,bV,reEl]) ?_
  first
   |(cases hw:re.whole caps 1114111 <;> (simp only[zX,simprocAttr,i64,bV]); done)
   |(cases hw:re.whole caps 255 <;> (simp only[zX,simprocAttr,i64,bV]); done)
end Go.Proofs.Ytllagoeijcjpiaa
